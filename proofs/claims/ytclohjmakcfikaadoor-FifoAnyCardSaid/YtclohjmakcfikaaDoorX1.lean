/- The executor and what hangs on it, merged (Ex15, Ex16, Ex17, Ex18, Ex19, Ex20, Ex21, FfA, FfB, FfC, FfD, FfE, FfF, FfG, FfH, FfI, FfJ, FfK, FfL, FfM, FfRow, FfN, FfO, FfP, FfQ): a verified abstract run of code over memory, and the walks by it; each theorem names its conditions. -/
import Derived.Test.YtclohjmakcfikaaDoorX0
import Derived.Test.YtclohjmakcfikaaDoorMdAll
import Derived.Test.YtclohjmakcfikaaDoorMdRefTop
import Derived.Test.YtclohjmakcfikaaDoorCoOne2
import Derived.ChangeArms
import Derived.OpenShut
import Derived.ChangeSlices
import Derived.SizedLaws
/- Loops, calls and whole functions by the executor. No condition. -/
namespace Go.Proofs.YtclohjmakcfikaaDoor.Ex
open Go.RowKit Go.Proofs.YtclohjmakcfikaaDoorW.PrintWords
set_option linter.unusedVariables false
set_option linter.unusedSimpArgs false

/-! ### a state that says less -/
def tmLe (A : AS) : List (Nat × AV) → Prop
  | [] => True
  | (n, a) :: r => look A.tm n = a ∧ tmLe A r
def csLe : List L → List L → Prop
  | [], [] => True
  | _ :: r, .any :: s => csLe r s
  | x :: r, y :: s => x = y ∧ csLe r s
  | _, _ => False
def blLe (A : AS) : List (Nat × TypeId × List L) → Prop
  | [] => True
  | (l, t, cs) :: r => (match findB A.bl l with | some (t', cs') => t' = t ∧ csLe cs' cs | none => False) ∧ blLe A r
def rowLe (x : Option (Option Row)) (y : Option Row) : Prop := match x, y with
  | some (some ⟨ka, xs, wa⟩), some ⟨kb, ys, wb⟩ => match RK.eq? ka kb with
    | some ⟨e⟩ => (e ▸ xs : List kb.El) = ys ∧ wa = wb
    | none => False
  | some _, none => True
  | _, _ => False
def rwLe (A : AS) : List (Nat × Option Row) → Prop
  | [] => True
  | (k, x) :: r => rowLe (findR A.rw k) x ∧ rwLe A r
def hasK {α : Type} : List (Nat × α) → Nat → Bool
  | [], _ => false
  | (k, _) :: r, n => match Nat.beq k n with | true => true | false => hasK r n
def closedP (B : AS) : List (Nat × Nat) → Bool
  | [] => true
  | (l, _) :: r => match hasK B.bl l with | true => closedP B r | false => false
def closedL (B : AS) : L → Bool
  | .any => true
  | .v _ => true
  | .ptr l _ => hasK B.bl l
  | .elt k _ _ _ => hasK B.rw k
  | .row k => hasK B.rw k
  | .sub k _ _ _ _ => hasK B.rw k
  | .fn _ a b => match closedP B a with | true => closedP B b | false => false
def closedLs (B : AS) : List L → Bool
  | [] => true
  | x :: r => match closedL B x with | true => closedLs B r | false => false
def closedTs (B : AS) : List (Bool × List L) → Bool
  | [] => true
  | (_, cs) :: r => match closedLs B cs with | true => closedTs B r | false => false
def closedA (B : AS) : AV → Bool
  | .one x => closedL B x
  | .agg cs => closedLs B cs
  | .tup xs => closedTs B xs
def closedTm (B : AS) : List (Nat × AV) → Bool
  | [] => true
  | (_, a) :: r => match closedA B a with | true => closedTm B r | false => false
def closedBl (B : AS) : List (Nat × TypeId × List L) → Bool
  | [] => true
  | (_, _, cs) :: r => match closedLs B cs with | true => closedBl B r | false => false
def closed (B : AS) : Bool := match closedTm B B.tm with | true => closedBl B B.bl | false => false
def Le (A B : AS) : Prop := tmLe A B.tm ∧ blLe A B.bl ∧ rwLe A B.rw ∧ closed B = true
theorem hasK_findB {bl : List (Nat × TypeId × List L)} {l : Nat} (h : hasK bl l = true) : findB bl l ≠ none := by
  induction bl with
  | nil => cases h
  | cons p r ih =>
    obtain ⟨k, t, cs⟩ := p
    simp only [hasK, findB] at h ⊢
    split
    · simp
    · rename_i h1; rw [h1] at h; exact ih h
theorem hasK_findR {rw_ : List (Nat × Option Row)} {l : Nat} (h : hasK rw_ l = true) : findR rw_ l ≠ none := by
  induction rw_ with
  | nil => cases h
  | cons p r ih =>
    obtain ⟨k, x⟩ := p
    simp only [hasK, findR] at h ⊢
    split
    · simp
    · rename_i h1; rw [h1] at h; exact ih h
section
variable {B : AS} {ρ ρ' : Env}
theorem closedP_map (h : Agree B ρ ρ') : ∀ {ps : List (Nat × Nat)}, closedP B ps = true → (ps.map fun p => Value.pointer (some ⟨ρ'.b p.1, p.2, none⟩)) = ps.map fun p => Value.pointer (some ⟨ρ.b p.1, p.2, none⟩)
  | [], _ => rfl
  | (l, o) :: r, hc => by
    simp only [closedP] at hc
    split at hc
    · rename_i h1
      simp only [List.map_cons, closedP_map h hc, h.1 l (hasK_findB h1)]
    · cases hc
theorem closedL_rel (h : Agree B ρ ρ') {x : L} {v : Value} (hc : closedL B x = true) (hx : x.rel ρ v) : x.rel ρ' v := by
  cases x with
  | any => trivial
  | v y => exact hx
  | ptr l o => simp only [L.rel] at hx ⊢; rw [h.1 l (hasK_findB hc)]; exact hx
  | elt k sz i o => simp only [L.rel] at hx ⊢; rw [h.2 k (hasK_findR hc)]; exact hx
  | row k => simp only [L.rel] at hx ⊢; rw [h.2 k (hasK_findR hc)]; exact hx
  | sub k sz lo hi f => simp only [L.rel] at hx ⊢; rw [h.2 k (hasK_findR hc)]; exact hx
  | fn f a b =>
    simp only [closedL] at hc
    split at hc
    · rename_i h1
      simp only [L.rel] at hx ⊢
      rw [closedP_map h h1, closedP_map h hc]
      exact hx
    · cases hc
theorem closedLs_rel (h : Agree B ρ ρ') : ∀ {xs : List L} {vs : List Value}, closedLs B xs = true → Ls ρ xs vs → Ls ρ' xs vs
  | [], [], _, _ => trivial
  | x :: r, v :: s, hc, hx => by
    simp only [closedLs] at hc
    split at hc
    · rename_i h1
      exact ⟨closedL_rel h h1 hx.1, closedLs_rel h hc hx.2⟩
    · cases hc
  | [], _ :: _, _, hx => hx.elim
  | _ :: _, [], _, hx => hx.elim
theorem closedTs_rel (h : Agree B ρ ρ') : ∀ {xs : List (Bool × List L)} {vs : List Value}, closedTs B xs = true → Cps ρ xs vs → Cps ρ' xs vs
  | [], [], _, _ => trivial
  | (b, cs) :: r, v :: s, hc, hx => by
    simp only [closedTs] at hc
    split at hc
    · rename_i h1
      refine ⟨?_, closedTs_rel h hc hx.2⟩
      have h2 := hx.1
      cases b with
      | true =>
        obtain ⟨vs, e, hv⟩ := h2
        exact ⟨vs, e, closedLs_rel h h1 hv⟩
      | false =>
        match cs, h1, h2 with
        | [y], h1, h2 =>
          have : closedL B y = true := by
            simp only [closedLs] at h1
            split at h1
            · assumption
            · cases h1
          exact closedL_rel h this h2
    · cases hc
  | [], _ :: _, _, hx => hx.elim
  | _ :: _, [], _, hx => hx.elim
theorem closedA_rel (h : Agree B ρ ρ') {a : AV} {v : Value} (hc : closedA B a = true) (hx : a.rel ρ v) : a.rel ρ' v := by
  cases a with
  | one x => exact closedL_rel h hc hx
  | agg cs =>
    obtain ⟨vs, e, hv⟩ := hx
    exact ⟨vs, e, closedLs_rel h hc hv⟩
  | tup xs =>
    obtain ⟨vs, e, hv⟩ := hx
    exact ⟨vs, e, closedTs_rel h hc hv⟩
theorem closedTm_look : ∀ {tm : List (Nat × AV)}, closedTm B tm = true → ∀ n, closedA B (look tm n) = true
  | [], _, n => rfl
  | (k, a) :: r, hc, n => by
    simp only [closedTm] at hc
    split at hc
    · rename_i h1
      simp only [look]
      split
      · exact h1
      · exact closedTm_look hc n
    · cases hc
theorem closedBl_find : ∀ {bl : List (Nat × TypeId × List L)}, closedBl B bl = true → ∀ {l t cs}, findB bl l = some (t, cs) → closedLs B cs = true
  | [], _, l, t, cs, h => by cases h
  | (k, t0, cs0) :: r, hc, l, t, cs, h => by
    simp only [closedBl] at hc
    split at hc
    · rename_i h1
      simp only [findB] at h
      split at h
      · injection h with h
        injection h with _ h
        rw [← h]
        exact h1
      · exact closedBl_find hc h
    · cases hc
end
theorem tmLe_look {A : AS} {ρ : Env} {a : Act} (hA : ∀ n, (look A.tm n).rel ρ (a.tmps.getD n undef)) : ∀ {tm : List (Nat × AV)}, tmLe A tm → ∀ n, (look tm n).rel ρ (a.tmps.getD n undef)
  | [], _, n => trivial
  | (k, x) :: r, h, n => by
    simp only [look]
    split
    · rename_i h1
      have := Nat.eq_of_beq_eq_true h1
      subst this
      rw [← h.1]
      exact hA k
    · exact tmLe_look hA h.2 n
theorem csLe_rel {ρ : Env} : ∀ {xs ys : List L} {vs : List Value}, csLe xs ys → Ls ρ xs vs → Ls ρ ys vs := by
  intro xs ys
  induction xs generalizing ys with
  | nil =>
    intro vs h k
    cases ys with
    | nil => exact k
    | cons _ _ => exact h.elim
  | cons x r ih =>
    intro vs h k
    cases ys with
    | nil => exact h.elim
    | cons y s =>
      cases vs with
      | nil => exact k.elim
      | cons v us =>
        cases y with
        | any => exact ⟨trivial, ih h k.2⟩
        | _ => exact ⟨h.1 ▸ k.1, ih h.2 k.2⟩
theorem blLe_find {A : AS} : ∀ {bl : List (Nat × TypeId × List L)}, blLe A bl → ∀ {l t cs}, findB bl l = some (t, cs) → ∃ cs', findB A.bl l = some (t, cs') ∧ csLe cs' cs
  | [], _, l, t, cs, h => by cases h
  | (k, t0, cs0) :: r, hb, l, t, cs, h => by
    simp only [findB] at h
    split at h
    · rename_i h1
      have := Nat.eq_of_beq_eq_true h1
      subst this
      injection h with h
      injection h with e1 e2
      subst e1 e2
      have h2 := hb.1
      split at h2
      · rename_i t' cs' hf
        obtain ⟨rfl, h3⟩ := h2
        exact ⟨cs', hf, h3⟩
      · exact h2.elim
    · exact blLe_find hb.2 h
theorem rwLe_find {A : AS} : ∀ {rw_ : List (Nat × Option Row)}, rwLe A rw_ → ∀ {k}, (∀ R, findR rw_ k = some (some R) → findR A.rw k = some (some R)) ∧ (findR rw_ k ≠ none → findR A.rw k ≠ none)
  | [], _, k => ⟨fun R h => (by cases h), fun h => absurd rfl h⟩
  | (j, x) :: r, hb, k => by
    simp only [findR]
    split
    · rename_i h1
      have := Nat.eq_of_beq_eq_true h1
      subst this
      have h2 := hb.1
      unfold rowLe at h2
      split at h2
      · rename_i ka xs wa kb ys wb hf
        split at h2
        · rename_i e he
          subst e
          obtain ⟨rfl, rfl⟩ := h2
          refine ⟨fun R h => ?_, fun _ => (by rw [hf]; simp)⟩
          injection h with h
          injection h with h
          subst h
          exact hf
        · exact h2.elim
      · rename_i y hf
        exact ⟨fun R h => (by injection h with h; cases h), fun _ => (by rw [hf]; simp)⟩
      · exact h2.elim
    · exact rwLe_find hb.2
theorem Le.sat {g : G} {ρ : Env} {A B : AS} {a : Act} {w : World} (h : Le A B) (hS : Sat g ρ A a w) : Sat g ρ B a w := by
  obtain ⟨h1, h2, h3, h4⟩ := h
  have hA := hS.rel
  unfold closed at h4
  split at h4
  · rename_i h5
    have hkb : ∀ l, findB B.bl l ≠ none → findB A.bl l ≠ none := fun l hl => by
      cases hf : findB B.bl l with
      | none => exact absurd hf hl
      | some p =>
        obtain ⟨t, cs⟩ := p
        obtain ⟨cs', k1, _⟩ := blLe_find h2 hf
        rw [k1]; simp
    intro ρ' hag
    refine ⟨fun n => closedA_rel hag (closedTm_look h5 n) (tmLe_look hA.tm h1 n), hA.df, fun l t cs hl => ?_, fun l l' hl hl' e => ?_, fun l hl => ?_, fun k R hk => ?_, fun k R l hk hw hl => ?_, fun k R k' R' hk hk' hw hw' hne b hb => ?_, hA.bel, hA.kept⟩
    · obtain ⟨cs', k1, k2⟩ := blLe_find h2 hl
      obtain ⟨vs, j1, j2⟩ := hA.bl l t cs' k1
      rw [hag.1 l (by rw [hl]; simp)]
      exact ⟨vs, j1, closedLs_rel hag (closedBl_find h4 hl) (csLe_rel k2 j2)⟩
    · rw [hag.1 l hl, hag.1 l' hl'] at e
      exact hA.inj l l' (hkb l hl) (hkb l' hl') e
    · rw [hag.1 l hl]
      exact hA.own l (hkb l hl)
    · rw [hag.2 k (by rw [hk]; simp)]
      exact hA.rw k R ((rwLe_find h3).1 R hk)
    · rw [hag.2 k (by rw [hk]; simp), hag.1 l hl]
      exact hA.rb k R l ((rwLe_find h3).1 R hk) hw (hkb l hl)
    · rw [hag.2 k (by rw [hk]; simp)] at hb
      rw [hag.2 k' (by rw [hk']; simp)]
      exact hA.rr k R k' R' ((rwLe_find h3).1 R hk) ((rwLe_find h3).1 R' hk') hw hw' hne b hb
  · cases h4
/-! ### loops; cuts -/
section
variable {P : Program} {g : G} {X : Cx}
theorem LoopP.intro (hX : CxOk P g X) (hm : P.follows .mixedOrders = true) {c : Code} {A : AS} {K : X0 → AS → Prop} {ι : Type} (I : ι → AS) (φ : ι → Prop) (μ : ι → Nat) (i0 : ι) (h0 : φ i0) (hle : Le A (I i0))
    (hr : ∀ i, φ i → awp P g X c (I i) (fun e A1 => match e with | .n => ∃ j, φ j ∧ μ j < μ i ∧ Le A1 (I j) | .e k => K (.e k) A1 | .r => K .r A1)) : LoopP P g X c A K := by
  refine ⟨fun ρ a w hS hn => ?_⟩
  refine wp_loop_ghost (fun n a w => ∃ i ρ1, μ i = n ∧ φ i ∧ Sat g ρ1 (I i) a w ∧ a.tmps.size = X.nt ∧ Pin X.base ρ ρ1) (μ i0) ⟨i0, ρ, rfl, h0, hle.sat hS, hn, Pin.refl _ _⟩ ?_
  rintro n a w ⟨i, ρ1, rfl, hφ, hS1, hn1, hp1⟩
  refine wp_mono (awp_s hX hm c (I i) _ (hr i hφ) ρ1 a w hS1 hn1) ?_
  rintro e a2 w2 ⟨e0, A2, ρ2, rfl, hK, hS2, hn2, hp2⟩
  cases e0 with
  | n =>
    obtain ⟨j, h1, h2, h3⟩ := hK
    exact ⟨μ j, h2, j, ρ2, rfl, h1, h3.sat hS2, hn2, hp1.trans hp2⟩
  | e k => exact ⟨.e k, A2, ρ2, rfl, hK, hS2, hn2, hp1.trans hp2⟩
  | r => exact ⟨.r, A2, ρ2, rfl, hK, hS2, hn2, hp1.trans hp2⟩
/-! ### results -/
def resC (T : Tab) (A : AS) : ResultVar → Option (Bool × List L)
  | .tmp t => match look A.tm t with
    | .one x => some (false, [x])
    | .agg cs => some (true, cs)
    | .tup _ => none
  | .cell t ty => match look A.tm t, T.get ty with
    | .one (.ptr l o), some y => match A.cells l o y.sz with
      | some cs => match y.agg, cs with
        | true, cs => some (true, cs)
        | false, [x] => some (false, [x])
        | _, _ => none
      | none => none
    | _, _ => none
def resCs (T : Tab) (A : AS) : List ResultVar → Option (List (Bool × List L))
  | [] => some []
  | r :: rs => match resC T A r, resCs T A rs with
    | some c, some cs => some (c :: cs)
    | _, _ => none
def resAV : List (Bool × List L) → AV
  | [(true, cs)] => .agg cs
  | [(false, [x])] => .one x
  | cs => .tup cs
def ResP (T : Tab) (rs : List ResultVar) (A : AS) (K : AV → Prop) : Prop := match resCs T A rs with
  | some cs => K (resAV cs)
  | none => False
theorem resC_s {T : Tab} (hT : TabOk P T) {ρ : Env} {A : AS} {a : Act} {w : World} (hR : Rel g ρ A a w) {r : ResultVar} {c : Bool × List L} (h : resC T A r = some c) :
    ∃ x, ((match r with | .tmp t => pure (a.tmps.getD t undef) | .cell q t => do loadVar t (← asAddr (a.tmps.getD q undef))) : Sem Value).run P w = .ok x w ∧ Cp ρ c x := by
  cases r with
  | tmp t =>
    simp only [resC] at h
    have ht := hR.tm t
    split at h
    · rename_i x e
      injection h with h
      subst h
      rw [e] at ht
      exact ⟨_, rfl, ht⟩
    · rename_i cs e
      injection h with h
      subst h
      rw [e] at ht
      exact ⟨_, rfl, ht⟩
    · cases h
  | cell t ty =>
    simp only [resC] at h
    have ht := hR.tm t
    split at h
    · rename_i l o y e hy
      rw [e] at ht
      have ht' : a.tmps.getD t undef = .pointer (some ⟨ρ.b l, o, none⟩) := ht
      split at h
      · rename_i cs hcs
        obtain ⟨vs, h1, h2, h3⟩ := hR.cells hcs
        split at h
        · rename_i cs' hag
          injection h with h
          subst h
          obtain ⟨x, k1, k2⟩ := run_loadVar_of (hT ty y hy) h2 h1 h3 (.inl ⟨hag, rfl⟩)
          exact ⟨x, by simp [ht', asAddr, k1], k2⟩
        · rename_i x0 hag
          injection h with h
          subst h
          obtain ⟨x, k1, k2⟩ := run_loadVar_of (hT ty y hy) h2 h1 h3 (.inr ⟨hag, x0, rfl, rfl⟩)
          exact ⟨x, by simp [ht', asAddr, k1], k2⟩
        · cases h
      · cases h
    · cases h
theorem resCs_s {T : Tab} (hT : TabOk P T) {ρ : Env} {A : AS} {a : Act} {w : World} (hR : Rel g ρ A a w) : ∀ {rs : List ResultVar} {cs : List (Bool × List L)}, resCs T A rs = some cs →
    ∃ vs : List Value, (rs.mapM fun (r : ResultVar) => ((match r with | .tmp t => pure (a.tmps.getD t undef) | .cell q t => do loadVar t (← asAddr (a.tmps.getD q undef))) : Sem Value)).run P w = .ok vs w ∧ Cps ρ cs vs
  | [], cs, h => by
    simp only [resCs, Option.some.injEq] at h
    subst h
    exact ⟨[], by simp, trivial⟩
  | r :: rs, cs, h => by
    simp only [resCs] at h
    split at h
    · rename_i c cs' h1 h2
      injection h with h
      subst h
      obtain ⟨x, k1, k2⟩ := resC_s hT hR h1
      obtain ⟨vs, j1, j2⟩ := resCs_s hT hR h2
      refine ⟨x :: vs, ?_, k2, j2⟩
      rw [List.mapM_cons, Sem.run_bind, k1, Result.andThen_ok, Sem.run_bind, j1, Result.andThen_ok]
      rfl
    · cases h
theorem ResP.s {T : Tab} (hT : TabOk P T) {ρ : Env} {A : AS} {a : Act} {w : World} (hR : Rel g ρ A a w) {fn : Func} {K : AV → Prop} (h : ResP T fn.results.toList A K) : ∃ x v, (results fn a.tmps).run P w = .ok x w ∧ v.rel ρ x ∧ K v := by
  unfold ResP at h
  split at h
  · rename_i cs hcs
    obtain ⟨vs, h1, h2⟩ := resCs_s hT hR hcs
    refine ⟨if h : vs.toArray.size = 1 then vs.toArray[0] else .tuple vs.toArray, resAV cs, ?_, ?_, h⟩
    · unfold results
      rw [Array.mapM_eq_mapM_toList, Sem.run_bind, Sem.run_map]
      erw [h1]
      rfl
    · match cs, vs, h2 with
      | [], [], _ => exact ⟨[], rfl, trivial⟩
      | [(true, cs)], [v], h2 => exact h2.1
      | [(false, [x])], [v], h2 => exact h2.1
      | [(false, [])], [v], h2 => exact h2.1.elim
      | [(false, _ :: _ :: _)], [v], h2 => exact h2.1.elim
      | c1 :: c2 :: cs, v1 :: v2 :: vs, h2 =>
        have : resAV (c1 :: c2 :: cs) = .tup (c1 :: c2 :: cs) := by
          obtain ⟨b, l⟩ := c1
          cases b
          · match l with
            | [] => rfl
            | [_] => rfl
            | _ :: _ :: _ => rfl
          · rfl
        rw [this]
        exact ⟨v1 :: v2 :: vs, by simp, h2⟩
  · exact h.elim
end
end Go.Proofs.YtclohjmakcfikaaDoor.Ex

/- Whole functions by the executor; what is told of a callee. No condition. -/
namespace Go.Proofs.YtclohjmakcfikaaDoor.Ex
open Go.RowKit Go.Proofs.YtclohjmakcfikaaDoorW.PrintWords
set_option linter.unusedVariables false
set_option linter.unusedSimpArgs false

def argTm : Nat → List AV → List (Nat × AV)
  | _, [] => []
  | n, a :: r => (n, a) :: argTm (n + 1) r
theorem argTm_look {ρ : Env} : ∀ {avs : List AV} {vs : List Value} (n m : Nat) (rest : List Value), Args ρ avs vs → (look (argTm n avs) m).rel ρ (if n ≤ m then (vs ++ rest).getD (m - n) undef else undef)
  | [], [], n, m, rest, _ => trivial
  | a :: avs, v :: vs, n, m, rest, h => by
    simp only [argTm, look]
    split
    · rename_i h1
      have := Nat.eq_of_beq_eq_true h1
      subst this
      rw [if_pos (Nat.le_refl _), Nat.sub_self]
      exact h.1
    · rename_i h1
      have hne : n ≠ m := Nat.ne_of_beq_eq_false h1
      have ih := argTm_look (n + 1) m rest h.2
      by_cases hle : n ≤ m
      · rw [if_pos (by omega)] at ih
        rw [if_pos hle, show m - n = (m - (n + 1)) + 1 from by omega]
        simpa using ih
      · rw [if_neg (by omega)] at ih
        rw [if_neg hle]
        exact ih
  | [], _ :: _, _, _, _, h => h.elim
  | _ :: _, [], _, _, _, h => h.elim
section
variable {P : Program} {g : G} {X : Cx}
theorem Sat.base (g : G) (ρ : Env) : Sat g ρ ⟨[], [], []⟩ ⟨#[], []⟩ g.W0 := fun ρ' _ =>
  ⟨fun _ => trivial, rfl, fun _ _ _ h => (by cases h), fun _ _ h => absurd rfl h, fun _ h => absurd rfl h, fun _ _ h => (by cases h), fun _ _ _ h => (by cases h), fun _ _ _ _ h => (by cases h), Below.refl _ _, ⟨Nat.le_refl _, fun _ _ _ => rfl⟩⟩
/-- The frame of a function that is entered. -/
theorem Sat.args {ρ : Env} {tm : List (Nat × AV)} {bl : List (Nat × TypeId × List L)} {rw_ : List (Nat × Option Row)} {a : Act} {w : World} (h : Sat g ρ ⟨tm, bl, rw_⟩ a w) {avs : List AV} {vs : List Value} (hv : ∀ ρ', Agree ⟨tm, bl, rw_⟩ ρ ρ' → Args ρ' avs vs) (n : Nat) :
    Sat g ρ ⟨argTm 0 avs, bl, rw_⟩ { tmps := vs.toArray ++ Array.replicate n undef, defers := [] } w := fun ρ' h' => by
  have k := h ρ' h'
  refine ⟨fun m => ?_, rfl, k.bl, k.inj, k.own, k.rw, k.rb, k.rr, k.bel, k.kept⟩
  have := argTm_look 0 m (List.replicate n undef) (hv ρ' h')
  rw [if_pos (Nat.zero_le _), Nat.sub_zero] at this
  have e : (vs.toArray ++ Array.replicate n undef).getD m undef = (vs ++ List.replicate n undef).getD m undef := by
    rw [Array.getD_eq_getD_getElem?, List.getD_eq_getElem?_getD]
    congr 1
    rw [show vs.toArray ++ Array.replicate n undef = (vs ++ List.replicate n undef).toArray from by simp]
    simp
  show (look (argTm 0 avs) m).rel ρ' ((vs.toArray ++ Array.replicate n undef).getD m undef)
  rw [e]
  exact this
/-- A row that came in, to be read. -/
theorem src_C {w : World} {v : Value} {rk : RK} {xs : List rk.El} (h : Src w v rk xs) : ∃ B c, v = .slice B xs.length c ∧ xs.length ≤ c ∧ rk.kd.C w B xs.length xs := by
  obtain ⟨B, c, e, ⟨h1, h2⟩, h3, h4⟩ := h
  refine ⟨B, c, e, h1, rfl, h2, fun hp => ?_⟩
  cases B with
  | none => have := h3 rfl; omega
  | some a =>
    refine ⟨a, rfl, fun j p hj => ⟨rk.fk.enc p, rk.fk.hl p, rfl, fun i u hu => ?_⟩⟩
    have hlt := (List.getElem?_eq_some_iff.1 hj).1
    have hi : i < rk.fk.sz := by have := (List.getElem?_eq_some_iff.1 hu).1; rwa [rk.fk.hl] at this
    refine h4 a rfl _ u ?_
    have := cat_get rk.fk.hl rk.fk.dft xs j i hlt hi
    rw [show j * rk.kd.sz + i = j * rk.fk.sz + i from rfl, this]
    rw [List.getD_eq_getElem?_getD, hj]
    exact hu
theorem Sat.newRead {ρ : Env} {A : AS} {a : Act} {w : World} (h : Sat g ρ A a w) {d : Nat} {rk : RK} {xs : List rk.El} {v : Value} (hd : findR A.rw d = none) (hs : Src g.W0 v rk xs) (hS : ∀ b, v.ownBlock = some b → 0 < xs.length → ¬ g.S b) :
    Sat g { ρ with r := fun k => if k = d then v else ρ.r k } { A with rw := setR A.rw d (some ⟨rk, xs, false⟩) } a w := by
  intro ρ' h'
  have h1 := agree_setR h'
  have hne : ∀ j, findR A.rw j ≠ none → j ≠ d := fun j hj e => hj (by rw [e]; exact hd)
  have hag : Agree A ρ ρ' := ⟨h1.1, fun j hj => (h1.2 j hj).trans (if_neg (hne j hj))⟩
  have hvd : ρ'.r d = v := by
    have := h'.2 d (by simp only; rw [findR_set, if_pos rfl]; simp)
    rw [this]
    exact if_pos rfl
  obtain ⟨B, c, rfl, hc, hC⟩ := src_C hs
  refine (h ρ' hag).addRow (by
    rw [hvd]
    unfold Row.rel
    rw [if_neg (by simp)]
    exact ⟨B, c, rfl, hc, hC, fun a e hp => by subst e; exact hS _ rfl hp⟩) (fun hw => by cases hw) (fun hw => by cases hw)
/-- A function, by the executor. -/
theorem calls_awp (hX : CxOk P g X) (hm : P.follows .mixedOrders = true) {f : FuncId} {fn : Func} {c : Code} (hf : P.funcs[f]? = some fn) (hb : fn.body = some c) (hnt : X.nt = fn.ntmps) {tm : List (Nat × AV)} {bl : List (Nat × TypeId × List L)} {rw_ : List (Nat × Option Row)} {a0 : Act} {ρ : Env} {avs : List AV} {vs : List Value} {w : World} {K : AV → AS → Prop}
    (hS : Sat g ρ ⟨tm, bl, rw_⟩ a0 w) (hv : ∀ ρ', Agree ⟨tm, bl, rw_⟩ ρ ρ' → Args ρ' avs vs) (hl : vs.length ≤ fn.ntmps)
    (h : awp P g X c ⟨argTm 0 avs, bl, rw_⟩ (fun e A1 => match e with | .e _ => False | _ => ResP X.T fn.results.toList A1 (fun v => K v A1))) :
    Calls P f vs.toArray w fun e w1 => ∃ x v A1 ρ1 a1, e = .returned x ∧ v.rel ρ1 x ∧ K v A1 ∧ Sat g ρ1 A1 a1 w1 ∧ Pin X.base ρ ρ1 := by
  refine calls_of_wp hf hb ?_
  have hS1 := hS.args hv (fn.ntmps - vs.length)
  have e : fn.ntmps - vs.toArray.size = fn.ntmps - vs.length := by simp
  rw [e]
  refine wp_mono (awp_s hX hm c _ _ h ρ _ w hS1 (by simp [hnt]; omega)) ?_
  rintro e a1 w1 ⟨e0, A1, ρ1, rfl, hK, hS2, hn2, hp2⟩
  have fin : ResP X.T fn.results.toList A1 (fun v => K v A1) → a1.defers = [] ∧ ∃ v, (results fn a1.tmps).run P w1 = .ok v w1 ∧ ∃ x v_1 A1 ρ1 a1, Ending.returned v = .returned x ∧ v_1.rel ρ1 x ∧ K v_1 A1 ∧ Sat g ρ1 A1 a1 w1 ∧ Pin X.base ρ ρ1 := fun hR => by
    obtain ⟨x, v, k1, k2, k3⟩ := ResP.s hX.T hS2.rel hR
    exact ⟨hS2.rel.df, x, k1, x, v, A1, ρ1, a1, rfl, k2, k3, hS2, hp2⟩
  cases e0 with
  | n => exact fin hK
  | r => exact fin hK
  | e i => exact hK.elim
/-! ### calls that are walked into -/
def ltKeys {α : Type} : List (Nat × α) → Nat → Bool
  | [], _ => true
  | (k, _) :: r, n => match Nat.ble (k + 1) n with | true => ltKeys r n | false => false
def subKeys {α β : Type} : List (Nat × α) → List (Nat × β) → Bool
  | [], _ => true
  | (k, _) :: r, s => match hasK s k with | true => subKeys r s | false => false
theorem ltKeys_lt {bl : List (Nat × TypeId × List L)} {n l : Nat} (h : ltKeys bl n = true) (hl : findB bl l ≠ none) : l < n := by
  induction bl with
  | nil => exact absurd rfl hl
  | cons p r ih =>
    obtain ⟨k, t, cs⟩ := p
    simp only [ltKeys] at h
    simp only [findB] at hl
    split at h
    · rename_i h1
      split at hl
      · rename_i h2
        have := Nat.eq_of_beq_eq_true h2
        subst this
        exact Nat.le_of_ble_eq_true h1
      · exact ih h hl
    · cases h
theorem ltKeys_ltR {rw_ : List (Nat × Option Row)} {n l : Nat} (h : ltKeys rw_ n = true) (hl : findR rw_ l ≠ none) : l < n := by
  induction rw_ with
  | nil => exact absurd rfl hl
  | cons p r ih =>
    obtain ⟨k, x⟩ := p
    simp only [ltKeys] at h
    simp only [findR] at hl
    split at h
    · rename_i h1
      split at hl
      · rename_i h2
        have := Nat.eq_of_beq_eq_true h2
        subst this
        exact Nat.le_of_ble_eq_true h1
      · exact ih h hl
    · cases h
theorem subKeys_b {bl bl' : List (Nat × TypeId × List L)} {l : Nat} (h : subKeys bl bl' = true) (hl : findB bl l ≠ none) : findB bl' l ≠ none := by
  induction bl with
  | nil => exact absurd rfl hl
  | cons p r ih =>
    obtain ⟨k, t, cs⟩ := p
    simp only [subKeys] at h
    simp only [findB] at hl
    split at h
    · rename_i h1
      split at hl
      · rename_i h2
        have := Nat.eq_of_beq_eq_true h2
        subst this
        exact hasK_findB h1
      · exact ih h hl
    · cases h
theorem subKeys_r {bl bl' : List (Nat × Option Row)} {l : Nat} (h : subKeys bl bl' = true) (hl : findR bl l ≠ none) : findR bl' l ≠ none := by
  induction bl with
  | nil => exact absurd rfl hl
  | cons p r ih =>
    obtain ⟨k, x⟩ := p
    simp only [subKeys] at h
    simp only [findR] at hl
    split at h
    · rename_i h1
      split at hl
      · rename_i h2
        have := Nat.eq_of_beq_eq_true h2
        subst this
        exact hasK_findR h1
      · exact ih h hl
    · cases h
/-- The caller's state behind a call that was walked into. -/
def back (dst : Option Tmp) (v : AV) (A A1 : AS) (K : AS → Prop) : Prop := match dst with
  | none => K ⟨A.tm, A1.bl, A1.rw⟩
  | some t => fA v fun v => K ⟨(t, v) :: A.tm, A1.bl, A1.rw⟩
def inChk (X X' : Cx) (dst : Option Tmp) (A : AS) : Bool := match ltKeys A.bl X'.base, ltKeys A.rw X'.base, Nat.ble X.base X'.base, dst with
  | true, true, true, none => true
  | true, true, true, some t => Nat.ble (t + 1) X.nt
  | _, _, _, _ => false
def outChk (A A1 : AS) (v : AV) : Bool := match subKeys A.bl A1.bl, subKeys A.rw A1.rw, closedA A1 v with
  | true, true, true => true
  | _, _, _ => false
/-- The arguments brought to their form. -/
def argK : Nat → List AV → (List (Nat × AV) → Prop) → Prop
  | _, [], k => k []
  | n, a :: r, k => fA a fun a => argK (n + 1) r fun tm => k ((n, a) :: tm)
theorem argK_eq : ∀ (n : Nat) (xs : List AV) (k : List (Nat × AV) → Prop), argK n xs k = k (argTm n xs)
  | _, [], _ => rfl
  | n, a :: r, k => by simp only [argK, fA_eq, argK_eq (n + 1) r, argTm]
def goIn (args : List AV) (A : AS) (k : List (Nat × AV) → List (Nat × TypeId × List L) → List (Nat × Option Row) → Prop) : Prop := match A with
  | ⟨tm, bl, rw_⟩ => argK 0 args fun t => k t bl rw_
theorem goIn_eq (args : List AV) (A : AS) (k : List (Nat × AV) → List (Nat × TypeId × List L) → List (Nat × Option Row) → Prop) : goIn args A k = k (argTm 0 args) A.bl A.rw := by
  obtain ⟨tm, bl, rw_⟩ := A
  simp only [goIn, argK_eq]
theorem Sat.back {ρ ρ1 : Env} {A A1 : AS} {a a1 : Act} {w w1 : World} {n : Nat} (hA : Sat g ρ A a w) (h1 : Sat g ρ1 A1 a1 w1) (hb : ltKeys A.bl n = true) (hr : ltKeys A.rw n = true) (hp : Pin n ρ ρ1) (hsb : subKeys A.bl A1.bl = true) (hsr : subKeys A.rw A1.rw = true) : Sat g ρ1 ⟨A.tm, A1.bl, A1.rw⟩ a w1 := fun ρ' h' => by
  have k1 := h1 ρ' h'
  have hag : Agree A ρ ρ' := ⟨fun l hl => (h'.1 l (subKeys_b hsb hl)).trans (hp l (ltKeys_lt hb hl)).1, fun l hl => (h'.2 l (subKeys_r hsr hl)).trans (hp l (ltKeys_ltR hr hl)).2⟩
  have k := hA ρ' hag
  exact ⟨k.tm, k.df, k1.bl, k1.inj, k1.own, k1.rw, k1.rb, k1.rr, k1.bel, k1.kept⟩
theorem InlP.intro {X' : Cx} (hX : CxOk P g X') (hm : P.follows .mixedOrders = true) {dst : Option Tmp} {n : Nat} {args : List AV} {A : AS} {K : AS → Prop} {fn : Func} {c : Code} (hf : P.funcs[n]? = some fn) (hname : (fn.name == "runtime.NumGoroutine") = false) (hb : fn.body = some c) (hnt : X'.nt = fn.ntmps) (hl : args.length ≤ fn.ntmps) (hc : inChk X X' dst A = true)
    (h : goIn args A fun t bl rw_ => awp P g X' c ⟨t, bl, rw_⟩ (fun e A1 => match e with | .e _ => False | _ => ResP X'.T fn.results.toList A1 (fun v => outChk A A1 v = true ∧ back dst v A A1 K))) : InlP P g X dst n args A K := by
  rw [goIn_eq] at h
  refine ⟨⟨fn, hf, hname, by rw [hb]; rfl⟩, fun ρ a w vs hS hn hargs => ?_⟩
  have hlen : args.length = vs.length := by
    have : ∀ {xs : List AV} {ys : List Value}, Args ρ xs ys → xs.length = ys.length := by
      intro xs
      induction xs with
      | nil => intro ys h; cases ys with | nil => rfl | cons _ _ => exact h.elim
      | cons x r ih => intro ys h; cases ys with | nil => exact h.elim | cons y s => simp [ih h.2]
    exact this (hargs ρ (Agree.refl _ _))
  unfold inChk at hc
  have hk : ltKeys A.bl X'.base = true ∧ ltKeys A.rw X'.base = true ∧ X.base ≤ X'.base ∧ ∀ t, dst = some t → t < X.nt := by
    split at hc
    · rename_i h1 h2 h3
      exact ⟨h1, h2, Nat.le_of_ble_eq_true h3, fun t e => by cases e⟩
    · rename_i t h1 h2 h3
      exact ⟨h1, h2, Nat.le_of_ble_eq_true h3, fun t' e => by injection e with e; subst e; exact Nat.le_of_ble_eq_true hc⟩
    · cases hc
  obtain ⟨hk1, hk2, hk3, hk4⟩ := hk
  have key := calls_awp (tm := A.tm) (bl := A.bl) (rw_ := A.rw) (a0 := a) (K := fun v A1 => outChk A A1 v = true ∧ back dst v A A1 K) hX hm hf hb hnt hS hargs (by omega) h
  refine key.mono ?_
  rintro e w1 ⟨x, v, A1, ρ1, a1, rfl, hv, ⟨ho, hK⟩, hS1, hp⟩
  unfold outChk at ho
  split at ho
  · rename_i o1 o2 o3
    have hS2 := hS.back hS1 hk1 hk2 hp o1 o2
    have hpin : Pin X.base ρ ρ1 := fun l hl => hp l (by omega)
    cases dst with
    | none => exact ⟨x, ρ1, _, rfl, hS2, hn, hpin, hK⟩
    | some t =>
      simp only [Ex.back, fA_eq] at hK
      refine ⟨x, ρ1, _, rfl, hS2.put (fun ρ' h' => closedA_rel (B := A1) h' o3 hv) (by rw [hn]; exact hk4 t rfl), by simp [Act.put, hn], hpin, hK⟩
  · cases ho
end
end Go.Proofs.YtclohjmakcfikaaDoor.Ex

/- The table of types, by reckoning. No condition. -/
namespace Go.Proofs.YtclohjmakcfikaaDoor.Ex
open Go.RowKit Go.Proofs.YtclohjmakcfikaaDoorW.PrintWords
set_option linter.unusedVariables false
set_option linter.unusedSimpArgs false

def tyChk (P : Program) (t : TypeId) (y : Ty) (i : TypeInfo) (d : TypeDesc) : Bool :=
  i.size == y.sz && (match d with
    | .struct fs => y.agg && fs.toList.map (fun f => (f.offset, f.type)) == y.flds && fs.toList.mapM (fun f => (P.info? f.type).map fun i => (f.offset, i.size)) == some y.pl
    | .array _ _ => y.agg && y.flds == []
    | .slice e => !y.agg && y.flds == [] && y.elem == e
    | _ => !y.agg && y.flds == []) &&
  (match y.ik, d with
    | none, _ => true
    | some k, .int k' => ikEq k k'
    | _, _ => false) &&
  (!y.bo || (match d with | .bool => true | _ => false)) && (!y.pt || (match d with | .pointer _ => true | _ => false)) && (!y.sl || (match d with | .slice _ => true | _ => false)) && (!y.st || (match d with | .string => true | _ => false)) &&
  (y.eq == [] || (!P.stoodInHeld t && !P.eqGuardType P.depth t && (match d with | .struct fs => flatFields P 0 y.eq fs.toList | _ => false)))
theorem tyOk_of {P : Program} {t : TypeId} {y : Ty} {i : TypeInfo} {d : TypeDesc} {z : Value} (hi : P.info? t = some i) (hd : P.underlying t = some d) (hz : i.zero = some z) (hz2 : y.zero = z.cells.toList.map L.v) (hc : tyChk P t y i d = true) : TyOk P t y := by
  simp only [tyChk, Bool.and_eq_true, Bool.or_eq_true, Bool.not_eq_true', beq_iff_eq] at hc
  obtain ⟨⟨⟨⟨⟨⟨⟨h1, h2⟩, h3⟩, h4⟩, h5⟩, h6⟩, h7⟩, h8⟩ := hc
  refine ⟨i, d, hi, hd, h1, ⟨z, hz, hz2⟩, ?_, ?_, ?_, ?_, ?_, ?_, ?_⟩
  · cases d <;> simp_all
  · intro k hk
    rw [hk] at h3
    cases d with
    | int k' => rw [ikEq_eq h3]
    | _ => cases h3
  · intro hb
    rcases h4 with h4 | h4
    · rw [hb] at h4; cases h4
    · cases d <;> first | rfl | (cases h4; done)
  · intro hb
    rcases h5 with h5 | h5
    · rw [hb] at h5; cases h5
    · cases d <;> first | exact ⟨_, rfl⟩ | (cases h5; done)
  · intro hb
    rcases h6 with h6 | h6
    · rw [hb] at h6; cases h6
    · cases d <;> first | (cases h6; done) | skip
      simp only [Bool.and_eq_true, beq_iff_eq] at h2
      rw [h2.2]
  · intro hb
    rcases h7 with h7 | h7
    · rw [hb] at h7; cases h7
    · cases d <;> first | rfl | (cases h7; done)
  · intro hne
    rcases h8 with h8 | ⟨⟨k1, k2⟩, k3⟩
    · exact absurd h8 hne
    · refine ⟨k1, k2, ?_⟩
      cases d <;> first | (cases k3; done) | exact ⟨_, rfl, k3⟩
theorem eltOk_of {P : Program} {rk : RK} {i : TypeInfo} {z : Value} (hi : P.info? rk.fk.ty = some i) (hs : i.size = rk.fk.sz) (hz : i.zero = some z) (hz2 : z.cells.toList = rk.fk.enc rk.fk.dft) (hb : 0 < i.bytes ∧ i.bytes ≤ 100 ∧ 0 < rk.fk.sz) : ∃ i z, P.info? rk.fk.ty = some i ∧ i.size = rk.fk.sz ∧ i.zero = some z ∧ z.cells.toList = rk.fk.enc rk.fk.dft ∧ 0 < i.bytes ∧ i.bytes ≤ 100 ∧ 0 < rk.fk.sz := ⟨i, z, hi, hs, hz, hz2, hb.1, hb.2.1, hb.2.2⟩
theorem lt_of_ble {a b : Nat} (h : Nat.ble (a + 1) b = true) : a < b := Nat.le_of_ble_eq_true h
theorem le_of_ble {a b : Nat} (h : Nat.ble a b = true) : a ≤ b := Nat.le_of_ble_eq_true h
theorem elt_ok : EltOk Tryd.prog := fun rk => by
  cases rk
  · exact eltOk_of (rk := .pa) (i := (Tryd.prog.info? RK.pa.fk.ty).getD default) (z := (((Tryd.prog.info? RK.pa.fk.ty).getD default).zero).getD default) (by kernel_rfl) (by kernel_rfl) (by kernel_rfl) (by kernel_rfl) ⟨lt_of_ble (by kernel_rfl), le_of_ble (by kernel_rfl), lt_of_ble (by kernel_rfl)⟩
  · exact eltOk_of (rk := .la) (i := (Tryd.prog.info? RK.la.fk.ty).getD default) (z := (((Tryd.prog.info? RK.la.fk.ty).getD default).zero).getD default) (by kernel_rfl) (by kernel_rfl) (by kernel_rfl) (by kernel_rfl) ⟨lt_of_ble (by kernel_rfl), le_of_ble (by kernel_rfl), lt_of_ble (by kernel_rfl)⟩
  · exact eltOk_of (rk := .co) (i := (Tryd.prog.info? RK.co.fk.ty).getD default) (z := (((Tryd.prog.info? RK.co.fk.ty).getD default).zero).getD default) (by kernel_rfl) (by kernel_rfl) (by kernel_rfl) (by kernel_rfl) ⟨lt_of_ble (by kernel_rfl), le_of_ble (by kernel_rfl), lt_of_ble (by kernel_rfl)⟩
  · exact eltOk_of (rk := .mv) (i := (Tryd.prog.info? RK.mv.fk.ty).getD default) (z := (((Tryd.prog.info? RK.mv.fk.ty).getD default).zero).getD default) (by kernel_rfl) (by kernel_rfl) (by kernel_rfl) (by kernel_rfl) ⟨lt_of_ble (by kernel_rfl), le_of_ble (by kernel_rfl), lt_of_ble (by kernel_rfl)⟩
  · exact eltOk_of (rk := .int) (i := (Tryd.prog.info? RK.int.fk.ty).getD default) (z := (((Tryd.prog.info? RK.int.fk.ty).getD default).zero).getD default) (by kernel_rfl) (by kernel_rfl) (by kernel_rfl) (by kernel_rfl) ⟨lt_of_ble (by kernel_rfl), le_of_ble (by kernel_rfl), lt_of_ble (by kernel_rfl)⟩
theorem mixed_ok : Tryd.prog.follows .mixedOrders = true := by kernel_rfl
def tab : Tab := [
  (3, ⟨false, 1, [.v (.int .i64 0)], [], [], 0, some .i64, [], false, false, false, false⟩),
  (26, ⟨true, 5, [.v (.int .i64 0), .v (.int .i64 0), .v (.int .i64 0), .v (.slice none 0 0), .v (.slice none 0 0)], [(0, 3), (1, 3), (2, 3), (3, 23), (4, 24)], [(0, 1), (1, 1), (2, 1), (3, 1), (4, 1)], 0, none, [], false, false, false, false⟩),
  (23, ⟨false, 1, [.v (.slice none 0 0)], [], [], 40, none, [], false, false, true, false⟩),
  (33, ⟨true, 8, [.v (.int .i64 0), .v (.int .i64 0), .v (.string ⟨#[]⟩), .v (.int .i64 0), .v (.int .i64 0), .v (.int .i64 0), .v (.string ⟨#[]⟩), .v (.int .i64 0)], [(0, 3), (1, 3), (2, 9), (3, 3), (4, 3), (5, 3), (6, 9), (7, 3)], [(0, 1), (1, 1), (2, 1), (3, 1), (4, 1), (5, 1), (6, 1), (7, 1)], 0, none, [0, 0, 1, 0, 0, 0, 1, 0], false, false, false, false⟩),
  (28, ⟨true, 4, [.v (.int .i64 0), .v (.int .i64 0), .v (.int .i64 0), .v (.int .i64 0)], [(0, 3), (1, 3), (2, 3), (3, 3)], [(0, 1), (1, 1), (2, 1), (3, 1)], 0, none, [0, 0, 0, 0], false, false, false, false⟩),
  (24, ⟨false, 1, [.v (.slice none 0 0)], [], [], 47, none, [], false, false, true, false⟩),
  (40, ⟨true, 4, [.v (.int .i64 0), .v (.string ⟨#[]⟩), .v (.int .i64 0), .v (.int .i64 0)], [(0, 3), (1, 9), (2, 3), (3, 3)], [(0, 1), (1, 1), (2, 1), (3, 1)], 0, none, [0, 1, 0, 0], false, false, false, false⟩),
  (52, ⟨true, 17, [.v (.int .i64 0), .v (.int .i64 0), .v (.int .i64 0), .v (.slice none 0 0), .v (.slice none 0 0), .v (.int .i64 0), .v (.int .i64 0), .v (.string ⟨#[]⟩), .v (.int .i64 0), .v (.int .i64 0), .v (.int .i64 0), .v (.string ⟨#[]⟩), .v (.int .i64 0), .v (.int .i64 0), .v (.int .i64 0), .v (.int .i64 0), .v (.int .i64 0)], [(0, 26), (5, 33), (13, 28)], [(0, 5), (5, 8), (13, 4)], 0, none, [], false, false, false, false⟩),
  (47, ⟨true, 7, [.v (.int .i64 0), .v (.int .i64 0), .v (.string ⟨#[]⟩), .v (.int .i64 0), .v (.int .i64 0), .v (.int .i64 0), .v (.int .i64 0)], [(0, 3), (1, 3), (2, 9), (3, 3), (4, 3), (5, 3), (6, 3)], [(0, 1), (1, 1), (2, 1), (3, 1), (4, 1), (5, 1), (6, 1)], 0, none, [0, 0, 1, 0, 0, 0, 0], false, false, false, false⟩),
  (9, ⟨false, 1, [.v (.string ⟨#[]⟩)], [], [], 0, none, [], false, false, false, true⟩),
  (29, ⟨false, 1, [.v (.int .i64 0)], [], [], 0, some .i64, [], false, false, false, false⟩),
  (22, ⟨false, 1, [.v (.slice none 0 0)], [], [], 33, none, [], false, false, true, false⟩),
  (50, ⟨false, 1, [.v (.pointer none)], [], [], 0, none, [], false, true, false, false⟩),
  (54, ⟨false, 1, [.v (.pointer none)], [], [], 0, none, [], false, true, false, false⟩)]
theorem tab_ok : TabOk Tryd.prog tab :=
  Tab.ok_cons (tyOk_of (i := (Tryd.prog.info? 3).getD default) (d := (Tryd.prog.underlying 3).getD default) (z := (((Tryd.prog.info? 3).getD default).zero).getD default) (by kernel_rfl) (by kernel_rfl) (by kernel_rfl) (by kernel_rfl) (by kernel_rfl)) <|
  Tab.ok_cons (tyOk_of (i := (Tryd.prog.info? 26).getD default) (d := (Tryd.prog.underlying 26).getD default) (z := (((Tryd.prog.info? 26).getD default).zero).getD default) (by kernel_rfl) (by kernel_rfl) (by kernel_rfl) (by kernel_rfl) (by kernel_rfl)) <|
  Tab.ok_cons (tyOk_of (i := (Tryd.prog.info? 23).getD default) (d := (Tryd.prog.underlying 23).getD default) (z := (((Tryd.prog.info? 23).getD default).zero).getD default) (by kernel_rfl) (by kernel_rfl) (by kernel_rfl) (by kernel_rfl) (by kernel_rfl)) <|
  Tab.ok_cons (tyOk_of (i := (Tryd.prog.info? 33).getD default) (d := (Tryd.prog.underlying 33).getD default) (z := (((Tryd.prog.info? 33).getD default).zero).getD default) (by kernel_rfl) (by kernel_rfl) (by kernel_rfl) (by kernel_rfl) (by kernel_rfl)) <|
  Tab.ok_cons (tyOk_of (i := (Tryd.prog.info? 28).getD default) (d := (Tryd.prog.underlying 28).getD default) (z := (((Tryd.prog.info? 28).getD default).zero).getD default) (by kernel_rfl) (by kernel_rfl) (by kernel_rfl) (by kernel_rfl) (by kernel_rfl)) <|
  Tab.ok_cons (tyOk_of (i := (Tryd.prog.info? 24).getD default) (d := (Tryd.prog.underlying 24).getD default) (z := (((Tryd.prog.info? 24).getD default).zero).getD default) (by kernel_rfl) (by kernel_rfl) (by kernel_rfl) (by kernel_rfl) (by kernel_rfl)) <|
  Tab.ok_cons (tyOk_of (i := (Tryd.prog.info? 40).getD default) (d := (Tryd.prog.underlying 40).getD default) (z := (((Tryd.prog.info? 40).getD default).zero).getD default) (by kernel_rfl) (by kernel_rfl) (by kernel_rfl) (by kernel_rfl) (by kernel_rfl)) <|
  Tab.ok_cons (tyOk_of (i := (Tryd.prog.info? 52).getD default) (d := (Tryd.prog.underlying 52).getD default) (z := (((Tryd.prog.info? 52).getD default).zero).getD default) (by kernel_rfl) (by kernel_rfl) (by kernel_rfl) (by kernel_rfl) (by kernel_rfl)) <|
  Tab.ok_cons (tyOk_of (i := (Tryd.prog.info? 47).getD default) (d := (Tryd.prog.underlying 47).getD default) (z := (((Tryd.prog.info? 47).getD default).zero).getD default) (by kernel_rfl) (by kernel_rfl) (by kernel_rfl) (by kernel_rfl) (by kernel_rfl)) <|
  Tab.ok_cons (tyOk_of (i := (Tryd.prog.info? 9).getD default) (d := (Tryd.prog.underlying 9).getD default) (z := (((Tryd.prog.info? 9).getD default).zero).getD default) (by kernel_rfl) (by kernel_rfl) (by kernel_rfl) (by kernel_rfl) (by kernel_rfl)) <|
  Tab.ok_cons (tyOk_of (i := (Tryd.prog.info? 29).getD default) (d := (Tryd.prog.underlying 29).getD default) (z := (((Tryd.prog.info? 29).getD default).zero).getD default) (by kernel_rfl) (by kernel_rfl) (by kernel_rfl) (by kernel_rfl) (by kernel_rfl)) <|
  Tab.ok_cons (tyOk_of (i := (Tryd.prog.info? 22).getD default) (d := (Tryd.prog.underlying 22).getD default) (z := (((Tryd.prog.info? 22).getD default).zero).getD default) (by kernel_rfl) (by kernel_rfl) (by kernel_rfl) (by kernel_rfl) (by kernel_rfl)) <|
  Tab.ok_cons (tyOk_of (i := (Tryd.prog.info? 50).getD default) (d := (Tryd.prog.underlying 50).getD default) (z := (((Tryd.prog.info? 50).getD default).zero).getD default) (by kernel_rfl) (by kernel_rfl) (by kernel_rfl) (by kernel_rfl) (by kernel_rfl)) <|
  Tab.ok_cons (tyOk_of (i := (Tryd.prog.info? 54).getD default) (d := (Tryd.prog.underlying 54).getD default) (z := (((Tryd.prog.info? 54).getD default).zero).getD default) (by kernel_rfl) (by kernel_rfl) (by kernel_rfl) (by kernel_rfl) (by kernel_rfl)) <|
  Tab.ok_nil _

end Go.Proofs.YtclohjmakcfikaaDoor.Ex

/- Words for whole functions: a call's own surroundings, rows that came in. No condition. -/
namespace Go.Proofs.YtclohjmakcfikaaDoor.Ex
open Go.RowKit Go.Proofs.YtclohjmakcfikaaDoorW.PrintWords
set_option linter.unusedVariables false
set_option linter.unusedSimpArgs false
def gW (W : World) : G := ⟨W.heap.size, W, fun _ => False, Nat.le_refl _⟩
def env0 : Env := ⟨fun _ => 0, fun _ => .slice none 0 0⟩
def cx (C : List (Nat × Sp)) (nt : Nat) : Cx := ⟨tab, C, 10, nt⟩
theorem cx_ok {g : G} {C : List (Nat × Sp)} {nt : Nat} (h : ∀ f sp, lookC C f = some sp → SpOk Tryd.prog g 10 f sp) : CxOk Tryd.prog g (cx C nt) := ⟨tab_ok, elt_ok, h⟩
theorem spc_nil {P : Program} {g : G} {n : Nat} : ∀ f sp, lookC [] f = some sp → SpOk P g n f sp := fun f sp h => by cases h
theorem spc_cons {P : Program} {g : G} {n : Nat} {C : List (Nat × Sp)} {k : Nat} {s : Sp} (h : SpOk P g n k s) (r : ∀ f sp, lookC C f = some sp → SpOk P g n f sp) : ∀ f sp, lookC ((k, s) :: C) f = some sp → SpOk P g n f sp := fun f sp e => by
  simp only [lookC] at e
  split at e
  · rename_i hk
    have := Nat.eq_of_beq_eq_true hk
    subst this
    injection e with e
    subst e
    exact h
  · exact r f sp e
theorem Src.slice {w : World} {v : Value} {rk : RK} {xs : List rk.El} (h : Src w v rk xs) : ∃ A n c, v = .slice A n c := by
  obtain ⟨B, c, e, _⟩ := h
  exact ⟨_, _, _, e⟩
theorem row_rel {A : AS} {ρ ρ' : Env} (h : Agree A ρ ρ') {k : Nat} (hk : findR A.rw k ≠ none) {v : Value} (e : ρ.r k = v) {w : World} {rk : RK} {xs : List rk.El} (hs : Src w v rk xs) : (L.row k).rel ρ' v := ⟨by rw [h.2 k hk, e], hs.slice⟩
/-- Two rows that came in: layers, what is kept. -/
theorem start2 {W : World} {LV PV : Value} {ls : List La} {ps : List Pa} (h1 : Src W LV .la ls) (h2 : Src W PV .pa ps) :
    ∃ ρ : Env, ρ.r 0 = LV ∧ ρ.r 1 = PV ∧ Sat (gW W) ρ ⟨[], [], [(0, some ⟨.la, ls, false⟩), (1, some ⟨.pa, ps, false⟩)]⟩ ⟨#[], []⟩ W := by
  have s0 := Sat.base (gW W) env0
  have s1 := s0.newRead (d := 0) rfl h1 (fun _ _ _ h => h)
  have s2 := s1.newRead (d := 1) rfl h2 (fun _ _ _ h => h)
  exact ⟨_, rfl, rfl, s2⟩
/-- No row came in. -/
theorem start0 (W : World) : Sat (gW W) env0 ⟨[], [], []⟩ ⟨#[], []⟩ W := Sat.base (gW W) env0
theorem wrap_id {n : Int} (h1 : -9223372036854775808 ≤ n) (h2 : n ≤ 9223372036854775807) : IntKind.i64.wrap n = n := by rw [IntKind.wrap_i64]; omega
theorem wrap_succ {k : Nat} (h : k < 9223372036854775807) : IntKind.i64.wrap ((k : Int) + 1) = ((k + 1 : Nat) : Int) := by rw [wrap_id (by omega) (by omega)]; rfl
/-- A counter that goes up. -/
theorem up_ {k : Nat} (h : k < 9223372036854775807) : AV.one (.v (.int .i64 (IntKind.i64.wrap ((k : Int) + 1)))) = AV.one (.v (.int .i64 ((k + 1 : Nat) : Int))) := by rw [wrap_succ h]
theorem int_ {a b : Int} (h : a = b) : AV.one (.v (.int .i64 a)) = AV.one (.v (.int .i64 b)) := by rw [h]
theorem bool_ {a b : Bool} (h : a = b) : AV.one (.v (.bool a)) = AV.one (.v (.bool b)) := by rw [h]
theorem andR_t {a b c : Bool} (h : a = true) (k : b = c) : (a && b) = c := by rw [h, k]; rfl
theorem andR_f {a b : Bool} (h : a = false) : (a && b) = false := by rw [h]; rfl
end Go.Proofs.YtclohjmakcfikaaDoor.Ex

/- Callees told: the shape of what is to be shown. No condition. -/
namespace Go.Proofs.YtclohjmakcfikaaDoor.Ex
open Go.RowKit Go.Proofs.YtclohjmakcfikaaDoorW.PrintWords
set_option linter.unusedVariables false
set_option linter.unusedSimpArgs false
/-- A row among the arguments, read. -/
def rdRow (rk : RK) (x : L) (K : List rk.El → M) : M := match x with
  | .row q => .rd (.r q) fun v => match v with
    | .row (some ⟨rk', xs, _⟩) => match RK.eq? rk' rk with
      | some ⟨e⟩ => K (e ▸ xs)
      | none => .fail
    | _ => .fail
  | .v (.slice none 0 0) => K []
  | _ => .fail
theorem src_nil (w : World) (rk : RK) : Src w (.slice none 0 0) rk [] := ⟨none, 0, rfl, ⟨Nat.le_refl _, by simp⟩, fun _ => rfl, fun _ e => (by cases e)⟩
theorem rdRow_s {rk : RK} {x : L} {K : List rk.El → M} {A : AS} {r : AV × AS} (h : (rdRow rk x K).go A = some r) (hb : (rdRow rk x K).obl A) :
    ∃ xs, (K xs).go A = some r ∧ (K xs).obl A ∧ ∀ g ρ a w v, Rel g ρ A a w → x.rel ρ v → Src w v rk xs := by
  unfold rdRow at h hb
  split at h
  · rename_i q
    simp only [M.go] at h
    simp only [M.obl] at hb
    split at h
    · rename_i rk' xs wr hg
      simp only [hg] at hb
      split at h
      · rename_i e he
        simp only [he] at hb
        subst e
        exact ⟨xs, h, hb, fun g ρ a w v hR hv => by rw [hv.1]; exact hR.src (get_r hg)⟩
      · cases h
    · cases h
  · exact ⟨[], h, hb, fun g ρ a w v hR hv => by
      have : v = .slice none 0 0 := hv
      rw [this]
      exact src_nil w rk⟩
  · cases h
def FnOk (P : Program) (f : Nat) : Prop := ∃ fn, P.funcs[f]? = some fn ∧ (fn.name == "runtime.NumGoroutine") = false ∧ fn.body.isSome = true
/-- A callee that only reads and yields plain values. -/
theorem sp_val {P : Program} {g : G} {bs f : Nat} {sp : Sp} (hfn : FnOk P f) (h : ∀ d args (k : AV → M) (A : AS) (r : AV × AS), (sp d args k).go A = some r → (sp d args k).obl A → ∃ av, (k av).go A = some r ∧ (k av).obl A ∧
      ∀ ρ a w vs, Rel g ρ A a w → Args ρ args vs → Calls P f vs.toArray w fun e w1 => ∃ x, e = .returned x ∧ (∀ ρ', av.rel ρ' x) ∧ Below w.heap.size w w1) : SpOk P g bs f sp := by
  refine ⟨hfn, fun d hd args k A r hg hb => ?_⟩
  obtain ⟨av, k1, k2, k3⟩ := h d args k A r hg hb
  refine ⟨av, A, k1, k2, fun ρ a w vs hS hargs => (k3 ρ a w vs hS.rel (hargs ρ (Agree.refl _ _))).mono ?_⟩
  rintro e w1 ⟨x, rfl, hx, hbel⟩
  exact ⟨x, ρ, rfl, fun ρ' _ => hx ρ', hS.below hbel, Pin.refl _ _⟩
/-- 64 bits. -/
abbrev I64 (n : Int) : Prop := -9223372036854775808 ≤ n ∧ n ≤ 9223372036854775807
theorem i64_wrap (n : Int) : I64 (IntKind.i64.wrap n) := by rw [IntKind.wrap_i64]; unfold I64; omega
end Go.Proofs.YtclohjmakcfikaaDoor.Ex

/- A state that says less, its rows by other letters (an empty row for a slice that is nil). No condition. -/
namespace Go.Proofs.YtclohjmakcfikaaDoor.Ex
open Go.RowKit Go.Proofs.YtclohjmakcfikaaDoorW.PrintWords
set_option linter.unusedVariables false
set_option linter.unusedSimpArgs false
def mapR : List (Nat × Option Nat) → Nat → Option Nat
  | [], k => some k
  | (j, x) :: r, k => match Nat.beq j k with | true => x | false => mapR r k
def renL (σ : List (Nat × Option Nat)) : L → L
  | .row k => match mapR σ k with | some j => .row j | none => .v (.slice none 0 0)
  | .elt k sz i o => match mapR σ k with | some j => .elt j sz i o | none => .any
  | .sub k sz lo hi f => match mapR σ k with | some j => .sub j sz lo hi f | none => .any
  | .any => .any
  | .v x => .v x
  | .ptr l o => .ptr l o
  | .fn f a b => .fn f a b
def renLs (σ : List (Nat × Option Nat)) : List L → List L
  | [] => []
  | x :: r => renL σ x :: renLs σ r
def renTs (σ : List (Nat × Option Nat)) : List (Bool × List L) → List (Bool × List L)
  | [] => []
  | (b, x) :: r => (b, renLs σ x) :: renTs σ r
def renA (σ : List (Nat × Option Nat)) : AV → AV
  | .one x => .one (renL σ x)
  | .agg cs => .agg (renLs σ cs)
  | .tup xs => .tup (renTs σ xs)
def okL (σ : List (Nat × Option Nat)) : L → Bool
  | .elt k _ _ _ => match mapR σ k with | some _ => true | none => false
  | .sub k _ _ _ _ => match mapR σ k with | some _ => true | none => false
  | _ => true
def okLs (σ : List (Nat × Option Nat)) : List L → Bool
  | [] => true
  | x :: r => match okL σ x with | true => okLs σ r | false => false
def okTs (σ : List (Nat × Option Nat)) : List (Bool × List L) → Bool
  | [] => true
  | (_, x) :: r => match okLs σ x with | true => okTs σ r | false => false
def okA (σ : List (Nat × Option Nat)) : AV → Bool
  | .one x => okL σ x
  | .agg cs => okLs σ cs
  | .tup xs => okTs σ xs
def okTm (σ : List (Nat × Option Nat)) : List (Nat × AV) → Bool
  | [] => true
  | (_, a) :: r => match okA σ a with | true => okTm σ r | false => false
def okBl (σ : List (Nat × Option Nat)) : List (Nat × TypeId × List L) → Bool
  | [] => true
  | (_, _, cs) :: r => match okLs σ cs with | true => okBl σ r | false => false
def notIn (σ : List (Nat × Option Nat)) (j : Option Nat) : List (Nat × Option Row) → Bool
  | [] => true
  | (k, none) :: r => notIn σ j r
  | (k, some _) :: r => match j, mapR σ k with
    | some a, some b => match Nat.beq a b with | true => false | false => notIn σ j r
    | _, _ => notIn σ j r
def injR (σ : List (Nat × Option Nat)) : List (Nat × Option Row) → Bool
  | [] => true
  | (k, none) :: r => injR σ r
  | (k, some _) :: r => match notIn σ (mapR σ k) r with | true => injR σ r | false => false
def lowR (base : Nat) : List (Nat × Option Nat) → Bool
  | [] => true
  | (j, _) :: r => match Nat.ble base j with | true => lowR base r | false => false
def chkR (base : Nat) (σ : List (Nat × Option Nat)) (B : AS) : Bool := match closed B, okTm σ B.tm, okBl σ B.bl, injR σ B.rw, lowR base σ with
  | true, true, true, true, true => true
  | _, _, _, _, _ => false
def tmLeR (A : AS) (σ : List (Nat × Option Nat)) : List (Nat × AV) → Prop
  | [] => True
  | (n, a) :: r => look A.tm n = renA σ a ∧ tmLeR A σ r
def blLeR (A : AS) (σ : List (Nat × Option Nat)) : List (Nat × TypeId × List L) → Prop
  | [] => True
  | (l, t, cs) :: r => (match findB A.bl l with | some (t', cs') => t' = t ∧ csLe cs' (renLs σ cs) | none => False) ∧ blLeR A σ r
def nilLe : Option Row → Prop
  | none => True
  | some ⟨_, xs, w⟩ => xs = [] ∧ w = true
def rwLeR (A : AS) (σ : List (Nat × Option Nat)) : List (Nat × Option Row) → Prop
  | [] => True
  | (k, x) :: r => (match mapR σ k with | some j => rowLe (findR A.rw j) x | none => nilLe x) ∧ rwLeR A σ r
def LeR (base : Nat) (σ : List (Nat × Option Nat)) (A B : AS) : Prop := tmLeR A σ B.tm ∧ blLeR A σ B.bl ∧ rwLeR A σ B.rw ∧ chkR base σ B = true
def Env.ren (ρ : Env) (σ : List (Nat × Option Nat)) : Env := ⟨ρ.b, fun k => match mapR σ k with | some j => ρ.r j | none => .slice none 0 0⟩
section
variable {σ : List (Nat × Option Nat)} {ρ : Env}
theorem ren_some {k j : Nat} (h : mapR σ k = some j) : (ρ.ren σ).r k = ρ.r j := by simp only [Env.ren, h]
theorem ren_none {k : Nat} (h : mapR σ k = none) : (ρ.ren σ).r k = .slice none 0 0 := by simp only [Env.ren, h]
theorem renL_rel {x : L} {v : Value} (ho : okL σ x = true) (h : (renL σ x).rel ρ v) : x.rel (ρ.ren σ) v := by
  cases x with
  | any => trivial
  | v y => exact h
  | ptr l o => exact h
  | fn f a b => exact h
  | row k =>
    simp only [renL] at h
    split at h
    · rename_i j e
      simp only [L.rel] at h ⊢
      rw [ren_some e]
      exact h
    · rename_i e
      simp only [L.rel] at h ⊢
      rw [ren_none e]
      exact ⟨h, none, 0, 0, h⟩
  | elt k sz i o =>
    simp only [renL] at h
    simp only [okL] at ho
    split at h
    · rename_i j e
      simp only [L.rel] at h ⊢
      rw [ren_some e]
      exact h
    · rename_i e
      rw [e] at ho
      cases ho
  | sub k sz lo hi f =>
    simp only [renL] at h
    simp only [okL] at ho
    split at h
    · rename_i j e
      simp only [L.rel] at h ⊢
      rw [ren_some e]
      exact h
    · rename_i e
      rw [e] at ho
      cases ho
theorem renLs_rel : ∀ {xs : List L} {vs : List Value}, okLs σ xs = true → Ls ρ (renLs σ xs) vs → Ls (ρ.ren σ) xs vs
  | [], [], _, _ => trivial
  | x :: r, v :: s, ho, h => by
    simp only [okLs] at ho
    split at ho
    · rename_i h1
      exact ⟨renL_rel h1 h.1, renLs_rel ho h.2⟩
    · cases ho
  | [], _ :: _, _, h => h.elim
  | _ :: _, [], _, h => h.elim
theorem renTs_rel : ∀ {xs : List (Bool × List L)} {vs : List Value}, okTs σ xs = true → Cps ρ (renTs σ xs) vs → Cps (ρ.ren σ) xs vs
  | [], [], _, _ => trivial
  | (b, cs) :: r, v :: s, ho, h => by
    simp only [okTs] at ho
    split at ho
    · rename_i h1
      refine ⟨?_, renTs_rel ho h.2⟩
      have h2 := h.1
      cases b with
      | true =>
        obtain ⟨us, e, hu⟩ := h2
        exact ⟨us, e, renLs_rel h1 hu⟩
      | false =>
        match cs, h1, h2 with
        | [], h1, h2 => exact h2.elim
        | [x], h1, h2 =>
          simp only [okLs] at h1
          split at h1
          · rename_i h3
            exact renL_rel h3 h2
          · cases h1
        | _ :: _ :: _, h1, h2 => exact h2.elim
    · cases ho
  | [], _ :: _, _, h => h.elim
  | _ :: _, [], _, h => h.elim
theorem renA_rel {a : AV} {v : Value} (ho : okA σ a = true) (h : (renA σ a).rel ρ v) : a.rel (ρ.ren σ) v := by
  cases a with
  | one x => exact renL_rel ho h
  | agg cs =>
    obtain ⟨us, e, hu⟩ := h
    exact ⟨us, e, renLs_rel ho hu⟩
  | tup xs =>
    obtain ⟨us, e, hu⟩ := h
    exact ⟨us, e, renTs_rel ho hu⟩
end
theorem okTm_look {σ : List (Nat × Option Nat)} : ∀ {tm : List (Nat × AV)}, okTm σ tm = true → ∀ n, okA σ (look tm n) = true
  | [], _, n => rfl
  | (k, a) :: r, h, n => by
    simp only [okTm] at h
    split at h
    · rename_i h1
      simp only [look]
      split
      · exact h1
      · exact okTm_look h n
    · cases h
theorem okBl_find {σ : List (Nat × Option Nat)} : ∀ {bl : List (Nat × TypeId × List L)}, okBl σ bl = true → ∀ {l t cs}, findB bl l = some (t, cs) → okLs σ cs = true
  | [], _, l, t, cs, h => by cases h
  | (k, t0, cs0) :: r, hc, l, t, cs, h => by
    simp only [okBl] at hc
    split at hc
    · rename_i h1
      simp only [findB] at h
      split at h
      · injection h with h
        injection h with _ h
        rw [← h]
        exact h1
      · exact okBl_find hc h
    · cases hc
theorem tmLeR_look {A : AS} {σ : List (Nat × Option Nat)} {ρ : Env} {a : Act} (hA : ∀ n, (look A.tm n).rel ρ (a.tmps.getD n undef)) : ∀ {tm : List (Nat × AV)}, tmLeR A σ tm → okTm σ tm = true → ∀ n, (look tm n).rel (ρ.ren σ) (a.tmps.getD n undef)
  | [], _, _, n => trivial
  | (k, x) :: r, h, ho, n => by
    simp only [okTm] at ho
    split at ho
    · rename_i h0
      simp only [look]
      split
      · rename_i h1
        have := Nat.eq_of_beq_eq_true h1
        subst this
        have := hA k
        rw [h.1] at this
        exact renA_rel h0 this
      · exact tmLeR_look hA h.2 ho n
    · cases ho
theorem blLeR_find {A : AS} {σ : List (Nat × Option Nat)} : ∀ {bl : List (Nat × TypeId × List L)}, blLeR A σ bl → ∀ {l t cs}, findB bl l = some (t, cs) → ∃ cs', findB A.bl l = some (t, cs') ∧ csLe cs' (renLs σ cs)
  | [], _, l, t, cs, h => by cases h
  | (k, t0, cs0) :: r, hb, l, t, cs, h => by
    simp only [findB] at h
    split at h
    · rename_i h1
      have := Nat.eq_of_beq_eq_true h1
      subst this
      injection h with h
      injection h with e1 e2
      subst e1 e2
      have h2 := hb.1
      split at h2
      · rename_i t' cs' hf
        obtain ⟨rfl, h3⟩ := h2
        exact ⟨cs', hf, h3⟩
      · exact h2.elim
    · exact blLeR_find hb.2 h
theorem rwLeR_find {A : AS} {σ : List (Nat × Option Nat)} : ∀ {rw_ : List (Nat × Option Row)}, rwLeR A σ rw_ → ∀ {k R}, findR rw_ k = some (some R) → match mapR σ k with | some j => findR A.rw j = some (some R) | none => R.xs = [] ∧ R.wr = true
  | [], _, k, R, h => by cases h
  | (j, x) :: r, hb, k, R, h => by
    simp only [findR] at h
    split at h
    · rename_i h1
      have := Nat.eq_of_beq_eq_true h1
      subst this
      injection h with h
      subst h
      have h2 := hb.1
      split at h2
      · rename_i i e
        try simp only [e]
        unfold rowLe at h2
        split at h2
        · rename_i ka xs wa kb ys wb hf hx
          split at h2
          · rename_i e2 he
            subst e2
            obtain ⟨rfl, rfl⟩ := h2
            injection hx with hx
            subst hx
            exact hf
          · exact h2.elim
        · rename_i y hx
          cases hx
        · exact h2.elim
      · rename_i e
        try simp only [e]
        obtain ⟨rk, xs, wr⟩ := R
        exact h2
    · exact rwLeR_find hb.2 h
theorem notIn_ne {σ : List (Nat × Option Nat)} {j : Nat} : ∀ {rw_ : List (Nat × Option Row)}, notIn σ (some j) rw_ = true → ∀ {k R}, findR rw_ k = some (some R) → mapR σ k ≠ some j
  | [], _, k, R, h => by cases h
  | (i, none) :: r, hn, k, R, h => by
    simp only [findR] at h
    split at h
    · cases h
    · exact notIn_ne (rw_ := r) hn h
  | (i, some x) :: r, hn, k, R, h => by
    simp only [findR] at h
    simp only [notIn] at hn
    split at h
    · rename_i h1
      have := Nat.eq_of_beq_eq_true h1
      subst this
      intro e
      rw [e] at hn
      simp at hn
    · refine notIn_ne ?_ h
      cases e : mapR σ i with
      | none => rw [e] at hn; exact hn
      | some b =>
        rw [e] at hn
        simp only at hn
        split at hn
        · cases hn
        · exact hn
theorem injR_inj {σ : List (Nat × Option Nat)} : ∀ {rw_ : List (Nat × Option Row)}, injR σ rw_ = true → ∀ {k k' j R R'}, findR rw_ k = some (some R) → findR rw_ k' = some (some R') → mapR σ k = some j → mapR σ k' = some j → k = k'
  | [], _, k, k', j, R, R', h, _, _, _ => by cases h
  | (i, none) :: r, hn, k, k', j, R, R', h, h', e, e' => by
    simp only [findR] at h h'
    split at h
    · cases h
    · split at h'
      · cases h'
      · exact injR_inj (rw_ := r) hn h h' e e'
  | (i, some x) :: r, hn, k, k', j, R, R', h, h', e, e' => by
    simp only [findR] at h h'
    simp only [injR] at hn
    split at hn
    · rename_i hni
      split at h
      · rename_i h1
        have := Nat.eq_of_beq_eq_true h1
        subst this
        split at h'
        · rename_i h2
          exact Nat.eq_of_beq_eq_true h2
        · rw [e] at hni
          exact absurd e' (notIn_ne hni h')
      · split at h'
        · rename_i h2
          have := Nat.eq_of_beq_eq_true h2
          subst this
          rw [e'] at hni
          exact absurd e (notIn_ne hni h)
        · exact injR_inj hn h h' e e'
    · cases hn
theorem lowR_low {base : Nat} : ∀ {σ : List (Nat × Option Nat)}, lowR base σ = true → ∀ {k}, k < base → mapR σ k = some k
  | [], _, k, _ => rfl
  | (j, x) :: r, h, k, hk => by
    simp only [lowR] at h
    simp only [mapR]
    split at h
    · rename_i h1
      have := Nat.le_of_ble_eq_true h1
      split
      · rename_i h2
        have := Nat.eq_of_beq_eq_true h2
        omega
      · exact lowR_low h hk
    · cases h
theorem LeR.sat {g : G} {ρ : Env} {A B : AS} {a : Act} {w : World} {base : Nat} {σ : List (Nat × Option Nat)} (h : LeR base σ A B) (hS : Sat g ρ A a w) : Sat g (ρ.ren σ) B a w ∧ Pin base ρ (ρ.ren σ) := by
  obtain ⟨h1, h2, h3, h4⟩ := h
  have hA := hS.rel
  unfold chkR at h4
  split at h4
  rotate_left
  · cases h4
  rename_i c1 c2 c3 c4 c5
  refine ⟨?_, fun l hl => ⟨rfl, by rw [ren_some (lowR_low c5 hl)]⟩⟩
  unfold closed at c1
  split at c1
  · rename_i h5
    have hkb : ∀ l, findB B.bl l ≠ none → findB A.bl l ≠ none := fun l hl => by
      cases hf : findB B.bl l with
      | none => exact absurd hf hl
      | some p =>
        obtain ⟨t, cs⟩ := p
        obtain ⟨cs', k1, _⟩ := blLeR_find h2 hf
        rw [k1]; simp
    intro ρ' hag
    refine ⟨fun n => closedA_rel hag (closedTm_look h5 n) (tmLeR_look hA.tm h1 c2 n), hA.df, fun l t cs hl => ?_, fun l l' hl hl' e => ?_, fun l hl => ?_, fun k R hk => ?_, fun k R l hk hw hl => ?_, fun k R k' R' hk hk' hw hw' hne b hb => ?_, hA.bel, hA.kept⟩
    · obtain ⟨cs', k1, k2⟩ := blLeR_find h2 hl
      obtain ⟨vs, j1, j2⟩ := hA.bl l t cs' k1
      rw [hag.1 l (by rw [hl]; simp)]
      exact ⟨vs, j1, closedLs_rel hag (closedBl_find c1 hl) (renLs_rel (okBl_find c3 hl) (csLe_rel k2 j2))⟩
    · rw [hag.1 l hl, hag.1 l' hl'] at e
      exact hA.inj l l' (hkb l hl) (hkb l' hl') e
    · rw [hag.1 l hl]
      exact hA.own l (hkb l hl)
    · rw [hag.2 k (by rw [hk]; simp)]
      have := rwLeR_find h3 hk
      split at this
      · rename_i j e
        rw [ren_some e]
        exact hA.rw j R this
      · rename_i e
        rw [ren_none e]
        obtain ⟨rk, xs, wr⟩ := R
        obtain ⟨e1, e2⟩ := this
        simp only at e1 e2
        subst e1 e2
        unfold Row.rel
        rw [if_pos rfl]
        exact ⟨by simp [cat], .inl ⟨rfl, rfl⟩⟩
    · rw [hag.2 k (by rw [hk]; simp), hag.1 l hl]
      have := rwLeR_find h3 hk
      split at this
      · rename_i j e
        rw [ren_some e]
        exact hA.rb j R l this hw (hkb l hl)
      · rename_i e
        rw [ren_none e]
        simp [Value.ownBlock]
    · rw [hag.2 k (by rw [hk]; simp)] at hb
      rw [hag.2 k' (by rw [hk']; simp)]
      have t1 := rwLeR_find h3 hk
      have t2 := rwLeR_find h3 hk'
      split at t2
      · rename_i j' e'
        rw [ren_some e']
        split at t1
        · rename_i j e
          rw [ren_some e] at hb
          exact hA.rr j R j' R' t1 t2 hw hw' (fun ej => hne (injR_inj c4 hk hk' e (by rw [e', ej]))) b hb
        · rename_i e
          rw [ren_none e] at hb
          simp [Value.ownBlock] at hb
      · rename_i e'
        rw [ren_none e']
        simp [Value.ownBlock]
  · cases c1
section
variable {P : Program} {g : G} {X : Cx}
/-- A loop; its rows may come to have other letters. -/
theorem LoopP.introR (hX : CxOk P g X) (hm : P.follows .mixedOrders = true) {c : Code} {A : AS} {K : X0 → AS → Prop} {ι : Type} (I : ι → AS) (φ : ι → Prop) (μ : ι → Nat) (i0 : ι) (h0 : φ i0) (hle : ∃ σ, LeR X.base σ A (I i0))
    (hr : ∀ i, φ i → awp P g X c (I i) (fun e A1 => match e with | .n => ∃ j, φ j ∧ μ j < μ i ∧ ∃ σ, LeR X.base σ A1 (I j) | .e k => K (.e k) A1 | .r => K .r A1)) : LoopP P g X c A K := by
  refine ⟨fun ρ a w hS hn => ?_⟩
  obtain ⟨σ0, hle⟩ := hle
  obtain ⟨hS0, hp0⟩ := hle.sat hS
  refine wp_loop_ghost (fun n a w => ∃ i ρ1, μ i = n ∧ φ i ∧ Sat g ρ1 (I i) a w ∧ a.tmps.size = X.nt ∧ Pin X.base ρ ρ1) (μ i0) ⟨i0, _, rfl, h0, hS0, hn, hp0⟩ ?_
  rintro n a w ⟨i, ρ1, rfl, hφ, hS1, hn1, hp1⟩
  refine wp_mono (awp_s hX hm c (I i) _ (hr i hφ) ρ1 a w hS1 hn1) ?_
  rintro e a2 w2 ⟨e0, A2, ρ2, rfl, hK, hS2, hn2, hp2⟩
  cases e0 with
  | n =>
    obtain ⟨j, h1, h2, σ, h3⟩ := hK
    obtain ⟨k1, k2⟩ := h3.sat hS2
    exact ⟨μ j, h2, j, _, rfl, h1, k1, hn2, (hp1.trans hp2).trans k2⟩
  | e k => exact ⟨.e k, A2, ρ2, rfl, hK, hS2, hn2, hp1.trans hp2⟩
  | r => exact ⟨.r, A2, ρ2, rfl, hK, hS2, hn2, hp1.trans hp2⟩
/-- Behind a call: a state that says less, one out of a family. -/
theorem InlP.weak {dst : Option Tmp} {n : Nat} {args : List AV} {A : AS} {K : AS → Prop} {ι : Type} (I : ι → AS) (φ : ι → Prop) (h : InlP P g X dst n args A (fun A1 => ∃ i, φ i ∧ ∃ σ, LeR X.base σ A1 (I i))) (hK : ∀ i, φ i → K (I i)) : InlP P g X dst n args A K := by
  refine ⟨h.fn, fun ρ a w vs hS hn hargs => (h.out ρ a w vs hS hn hargs).mono ?_⟩
  rintro e w1 ⟨x, ρ1, A1, rfl, k1, k2, k3, i, k4, σ, k5⟩
  obtain ⟨j1, j2⟩ := k5.sat k1
  exact ⟨x, _, I i, rfl, j1, k2, k3.trans j2, hK i k4⟩
end
end Go.Proofs.YtclohjmakcfikaaDoor.Ex

/- Callees that make rows of their own, or take two over. No condition. -/
namespace Go.Proofs.YtclohjmakcfikaaDoor.Ex
open Go.RowKit Go.Proofs.YtclohjmakcfikaaDoorW.PrintWords
set_option linter.unusedVariables false
set_option linter.unusedSimpArgs false
/-- A world that has changed in the blocks of F alone, and grown. -/
structure Chg (w w1 : World) (F : Nat → Prop) : Prop where
  os : w1.os = w.os
  tape : w1.tape = w.tape
  output : w1.output = w.output
  size : w.heap.size ≤ w1.heap.size
  block : ∀ i, i < w.heap.size → ¬ F i → w1.heap[i]? = w.heap[i]?
section
variable {g : G} {ρ : Env} {A : AS} {a : Act} {w w1 : World}
theorem Rel.kill2 (h : Rel g ρ A a w) {k1 k2 : Nat} {R1 R2 : Row} (hk1 : findR A.rw k1 = some (some R1)) (hw1 : R1.wr = true) (hk2 : findR A.rw k2 = some (some R2)) (hw2 : R2.wr = true) (hg : Chg w w1 fun i => (ρ.r k1).ownBlock = some i ∨ (ρ.r k2).ownBlock = some i) : Rel g ρ { A with rw := setR (setR A.rw k1 none) k2 none } a w1 := by
  have own1 := h.rw k1 R1 hk1
  unfold Row.rel at own1
  rw [if_pos hw1] at own1
  have own2 := h.rw k2 R2 hk2
  unfold Row.rel at own2
  rw [if_pos hw2] at own2
  have hf : ∀ j R', findR (setR (setR A.rw k1 none) k2 none) j = some (some R') → j ≠ k1 ∧ j ≠ k2 ∧ findR A.rw j = some (some R') := fun j R' hj => by
    rw [findR_set] at hj
    split at hj
    · cases hj
    · rename_i n2
      rw [findR_set] at hj
      split at hj
      · cases hj
      · rename_i n1
        exact ⟨fun e => n1 e.symm, fun e => n2 e.symm, hj⟩
  have hblk : ∀ i, i < w.heap.size → (ρ.r k1).ownBlock ≠ some i → (ρ.r k2).ownBlock ≠ some i → w1.heap[i]? = w.heap[i]? := fun i hi n1 n2 => hg.block i hi (fun e => e.elim n1 n2)
  refine ⟨h.tm, h.df, ?_, h.inj, h.own, ?_, ?_, ?_, ?_, ?_⟩
  · intro l t cs hl
    obtain ⟨vs, h1, h2⟩ := h.bl l t cs hl
    have hl' : findB A.bl l ≠ none := by simp only at hl; rw [hl]; simp
    exact ⟨vs, (hblk _ (h.blt hl') (h.rb k1 R1 l hk1 hw1 hl') (h.rb k2 R2 l hk2 hw2 hl')).trans h1, h2⟩
  · intro j R' hj
    obtain ⟨n1, n2, hj'⟩ := hf j R' hj
    refine Row.rel_move (h.rw j R' hj') (fun hw' b hb => hblk b ?_ ?_ ?_)
    · have := h.rw j R' hj'
      unfold Row.rel at this
      rw [if_pos hw'] at this
      exact this.lt b hb
    · exact fun e => h.rr j R' k1 R1 hj' hk1 hw' hw1 n1 b hb e
    · exact fun e => h.rr j R' k2 R2 hj' hk2 hw' hw2 n2 b hb e
  · intro j R' l hj hw' hl
    exact h.rb j R' l (hf j R' hj).2.2 hw' hl
  · intro j R1 j' R2 h1 h2 w1 w2 hne
    exact h.rr j R1 j' R2 (hf j R1 h1).2.2 (hf j' R2 h2).2.2 w1 w2 hne
  · exact ⟨hg.os.trans h.bel.os, hg.tape.trans h.bel.tape, hg.output.trans h.bel.output, Nat.le_trans h.bel.size hg.size, fun b hb => (hblk b (Nat.lt_of_lt_of_le hb (Nat.le_trans g.rb0 h.kept.1)) (fun e => by have := (own1.ok b e).1; omega) (fun e => by have := (own2.ok b e).1; omega)).trans (h.bel.block b hb)⟩
  · refine ⟨Nat.le_trans h.kept.1 hg.size, fun i hi hs => (hblk i (Nat.lt_of_lt_of_le hi h.kept.1) (fun e => ?_) (fun e => ?_)).trans (h.kept.2 i hi hs)⟩
    · rcases (own1.ok i e).2 with h2 | h2
      · exact hs h2
      · omega
    · rcases (own2.ok i e).2 with h2 | h2
      · exact hs h2
      · omega
theorem Sat.kill2 (h : Sat g ρ A a w) {k1 k2 : Nat} {R1 R2 : Row} (hk1 : findR A.rw k1 = some (some R1)) (hw1 : R1.wr = true) (hk2 : findR A.rw k2 = some (some R2)) (hw2 : R2.wr = true) (hg : Chg w w1 fun i => (ρ.r k1).ownBlock = some i ∨ (ρ.r k2).ownBlock = some i) : Sat g ρ { A with rw := setR (setR A.rw k1 none) k2 none } a w1 := fun ρ' h' => by
  have hag1 := agree_setR (A := { A with rw := setR A.rw k1 none }) h'
  have hag := agree_setR hag1
  refine (h ρ' hag).kill2 hk1 hw1 hk2 hw2 ?_
  rw [hag.2 k1 (by rw [hk1]; simp), hag.2 k2 (by rw [hk2]; simp)]
  exact hg
end
/-- Two rows come to be. -/
def new2 (d : Nat) (R1 R2 : Row) (k : M) : M := kNewR d R1 fun _ => kNewR (d + 500) R2 fun _ => k
def Apart (v v' : Value) : Prop := ∀ b, v.ownBlock = some b → v'.ownBlock ≠ some b
theorem new2_s {g : G} {ρ : Env} {A : AS} {a : Act} {w : World} {d : Nat} {R1 R2 : Row} {k : M} {r : AV × AS} (h : (new2 d R1 R2 k).go A = some r) (hb : (new2 d R1 R2 k).obl A) :
    ∃ A1, k.go A1 = some r ∧ k.obl A1 ∧ ∀ {g : G} {ρ : Env} {a : Act} {w : World} {V1 V2 : Value}, Sat g ρ A a w → R1.wr = true → R2.wr = true → R1.rel g w V1 → R2.rel g w V2 → Apart V1 V2 → Apart V2 V1 →
      (∀ v, v = V1 ∨ v = V2 → (∀ l, findB A.bl l ≠ none → v.ownBlock ≠ some (ρ.b l)) ∧ ∀ j R', findR A.rw j = some (some R') → R'.wr = true → ∀ b, v.ownBlock = some b → (ρ.r j).ownBlock ≠ some b) →
      ∃ ρ1, Sat g ρ1 A1 a w ∧ (∀ bs, bs ≤ d → Pin bs ρ ρ1) ∧ ∀ ρ', Agree A1 ρ1 ρ' → ρ'.r d = V1 ∧ ρ'.r (d + 500) = V2 := by
  unfold new2 at h hb
  obtain ⟨h0, h1, h2⟩ := kNewR_go h hb
  obtain ⟨j0, j1, j2⟩ := kNewR_go h1 h2
  refine ⟨_, j1, j2, ?_⟩
  intro g ρ a w V1 V2 hS w1 w2 hr1 hr2 ha ha' hd
  have s1 := hS.newRow h0 hr1 (hd V1 (.inl rfl)).1 (hd V1 (.inl rfl)).2
  have s2 := s1.newRow j0 hr2 (hd V2 (.inr rfl)).1 (fun j R' hj hw b hb => by
    simp only at hj ⊢
    rw [findR_set] at hj
    split at hj
    · rename_i e
      subst e
      rw [if_pos rfl]
      exact fun e => ha' b hb e
    · rename_i e
      rw [if_neg (fun e' => e e'.symm)]
      exact (hd V2 (.inr rfl)).2 j R' hj hw b hb)
  refine ⟨_, s2, fun bs hbs l hl => ⟨rfl, ?_⟩, fun ρ' h' => ⟨?_, ?_⟩⟩
  · simp only
    rw [if_neg (by omega), if_neg (by omega)]
  · have := h'.2 d (by simp only; rw [findR_set]; split; · simp
                       · rw [findR_set, if_pos rfl]; simp)
    rw [this]
    simp
  · have := h'.2 (d + 500) (by simp only; rw [findR_set, if_pos rfl]; simp)
    rw [this]
    simp
theorem Own.mono {w : World} {p q : Nat → Prop} {ty : TypeId} {sz n : Nat} {v : Value} {cs : List Value} (h : Own w p ty sz v n cs) (hpq : ∀ b, v.ownBlock = some b → p b → q b) : Own w q ty sz v n cs := by
  obtain ⟨h1, ⟨h2, h3⟩ | ⟨b, cap, cur, h2, h3, h4⟩⟩ := h
  · exact ⟨h1, .inl ⟨h2, h3⟩⟩
  · exact ⟨h1, .inr ⟨b, cap, cur, h2, hpq b (by rw [h2]; rfl) h3, h4⟩⟩
abbrev OwnR (w : World) (p : Nat → Prop) (rk : RK) (v : Value) (xs : List rk.El) : Prop := Own w p rk.fk.ty rk.fk.sz v xs.length (cat rk.fk.enc xs)
/-- A callee that only reads and yields two rows of its own. -/
theorem sp_new2 {P : Program} {g : G} {bs f : Nat} {sp : Sp} (hfn : FnOk P f) (h : ∀ d args (k : AV → M) (A : AS) (r : AV × AS), (sp d args k).go A = some r → (sp d args k).obl A → ∃ av rk1 xs1 rk2 xs2, (new2 d ⟨rk1, xs1, true⟩ ⟨rk2, xs2, true⟩ (k av)).go A = some r ∧ (new2 d ⟨rk1, xs1, true⟩ ⟨rk2, xs2, true⟩ (k av)).obl A ∧
      ∀ ρ a w vs, Rel g ρ A a w → Args ρ args vs → Calls P f vs.toArray w fun e w1 => ∃ x V1 V2, e = .returned x ∧ (∀ ρ' : Env, ρ'.r d = V1 → ρ'.r (d + 500) = V2 → av.rel ρ' x) ∧ OwnR w1 (fun b => w.heap.size ≤ b) rk1 V1 xs1 ∧ OwnR w1 (fun b => w.heap.size ≤ b) rk2 V2 xs2 ∧ Apart V1 V2 ∧ Apart V2 V1 ∧ Below w.heap.size w w1) : SpOk P g bs f sp := by
  refine ⟨hfn, fun d hd args k A r hg hb => ?_⟩
  obtain ⟨av, rk1, xs1, rk2, xs2, k1, k2, k3⟩ := h d args k A r hg hb
  obtain ⟨A1, j1, j2, j3⟩ := new2_s (g := g) (ρ := env0) (a := ⟨#[], []⟩) (w := g.W0) k1 k2
  refine ⟨av, A1, j1, j2, fun ρ a w vs hS hargs => (k3 ρ a w vs hS.rel (hargs ρ (Agree.refl _ _))).mono ?_⟩
  rintro e w1 ⟨x, V1, V2, rfl, hx, o1, o2, a1, a2, hbel⟩
  have hS1 := hS.below hbel
  have hmine : ∀ b, w.heap.size ≤ b → g.mine b := fun b hb => ⟨Nat.le_trans (Nat.le_trans g.rb0 hS.rel.kept.1) hb, .inr (Nat.le_trans hS.rel.kept.1 hb)⟩
  have fr : ∀ v rk xs, OwnR w1 (fun b => w.heap.size ≤ b) rk v xs → (∀ l, findB A.bl l ≠ none → v.ownBlock ≠ some (ρ.b l)) ∧ ∀ j R', findR A.rw j = some (some R') → R'.wr = true → ∀ b, v.ownBlock = some b → (ρ.r j).ownBlock ≠ some b := fun v rk xs ho => ⟨fun l hl e => by
      have := ho.ok _ e
      exact (hS.rel.fresh this).1 l hl rfl, fun j R' hj hw b hb => (hS.rel.fresh (ho.ok b hb)).2 j R' hj hw⟩
  obtain ⟨ρ1, s1, p1, e1⟩ := j3 hS1 rfl rfl (by unfold Row.rel; rw [if_pos rfl]; exact o1.mono (fun b _ => hmine b)) (by unfold Row.rel; rw [if_pos rfl]; exact o2.mono (fun b _ => hmine b)) a1 a2 (fun v hv => by
    rcases hv with rfl | rfl
    · exact fr _ _ _ o1
    · exact fr _ _ _ o2)
  exact ⟨x, ρ1, rfl, fun ρ' h' => hx ρ' (e1 ρ' h').1 (e1 ρ' h').2, s1, p1 bs hd⟩
/-- A callee that takes two rows over and yields two. -/
theorem sp_kill2 {P : Program} {g : G} {bs f : Nat} {sp : Sp} (hfn : FnOk P f) (h : ∀ d args (k : AV → M) (A : AS) (r : AV × AS), (sp d args k).go A = some r → (sp d args k).obl A → ∃ av q1 q2 R1 R2 rk1 xs1 rk2 xs2, findR A.rw q1 = some (some R1) ∧ R1.wr = true ∧ findR A.rw q2 = some (some R2) ∧ R2.wr = true ∧ q1 ≠ q2 ∧
      (new2 d ⟨rk1, xs1, true⟩ ⟨rk2, xs2, true⟩ (k av)).go { A with rw := setR (setR A.rw q1 none) q2 none } = some r ∧ (new2 d ⟨rk1, xs1, true⟩ ⟨rk2, xs2, true⟩ (k av)).obl { A with rw := setR (setR A.rw q1 none) q2 none } ∧
      ∀ ρ a w vs, Rel g ρ A a w → Args ρ args vs → Calls P f vs.toArray w fun e w1 => ∃ x V1 V2, e = .returned x ∧ (∀ ρ' : Env, ρ'.r d = V1 → ρ'.r (d + 500) = V2 → av.rel ρ' x) ∧ OwnR w1 (fun b => ((ρ.r q1).ownBlock = some b ∨ (ρ.r q2).ownBlock = some b) ∨ w.heap.size ≤ b) rk1 V1 xs1 ∧ OwnR w1 (fun b => ((ρ.r q1).ownBlock = some b ∨ (ρ.r q2).ownBlock = some b) ∨ w.heap.size ≤ b) rk2 V2 xs2 ∧ Apart V1 V2 ∧ Apart V2 V1 ∧ Chg w w1 fun b => (ρ.r q1).ownBlock = some b ∨ (ρ.r q2).ownBlock = some b) : SpOk P g bs f sp := by
  refine ⟨hfn, fun d hd args k A r hg hb => ?_⟩
  obtain ⟨av, q1, q2, R1, R2, rk1, xs1, rk2, xs2, f1, wr1, f2, wr2, hne, k1, k2, k3⟩ := h d args k A r hg hb
  obtain ⟨A1, j1, j2, j3⟩ := new2_s (g := g) (ρ := env0) (a := ⟨#[], []⟩) (w := g.W0) k1 k2
  refine ⟨av, A1, j1, j2, fun ρ a w vs hS hargs => (k3 ρ a w vs hS.rel (hargs ρ (Agree.refl _ _))).mono ?_⟩
  rintro e w1 ⟨x, V1, V2, rfl, hx, o1, o2, a1, a2, hchg⟩
  have hR := hS.rel
  have hS1 := hS.kill2 f1 wr1 f2 wr2 hchg
  have own1 := hR.rw q1 R1 f1
  unfold Row.rel at own1
  rw [if_pos wr1] at own1
  have own2 := hR.rw q2 R2 f2
  unfold Row.rel at own2
  rw [if_pos wr2] at own2
  have hmine : ∀ b, ((ρ.r q1).ownBlock = some b ∨ (ρ.r q2).ownBlock = some b) ∨ w.heap.size ≤ b → g.mine b := fun b hb => by
    rcases hb with (hb | hb) | hb
    · exact own1.ok b hb
    · exact own2.ok b hb
    · exact ⟨Nat.le_trans (Nat.le_trans g.rb0 hR.kept.1) hb, .inr (Nat.le_trans hR.kept.1 hb)⟩
  have fr : ∀ v rk xs, OwnR w1 (fun b => ((ρ.r q1).ownBlock = some b ∨ (ρ.r q2).ownBlock = some b) ∨ w.heap.size ≤ b) rk v xs → (∀ l, findB A.bl l ≠ none → v.ownBlock ≠ some (ρ.b l)) ∧ ∀ j R', findR (setR (setR A.rw q1 none) q2 none) j = some (some R') → R'.wr = true → ∀ b, v.ownBlock = some b → (ρ.r j).ownBlock ≠ some b := fun v rk xs ho => ⟨fun l hl e => by
      rcases ho.ok _ e with (hb | hb) | hb
      · exact hR.rb q1 R1 l f1 wr1 hl hb
      · exact hR.rb q2 R2 l f2 wr2 hl hb
      · exact (hR.fresh hb).1 l hl rfl, fun j R' hj hw b hb => by
      rw [findR_set] at hj
      split at hj
      · cases hj
      · rename_i n2
        rw [findR_set] at hj
        split at hj
        · cases hj
        · rename_i n1
          rcases ho.ok b hb with (hb | hb) | hb
          · exact hR.rr q1 R1 j R' f1 hj wr1 hw n1 b hb
          · exact hR.rr q2 R2 j R' f2 hj wr2 hw n2 b hb
          · exact (hR.fresh hb).2 j R' hj hw⟩
  obtain ⟨ρ1, s1, p1, e1⟩ := j3 hS1 rfl rfl (by unfold Row.rel; rw [if_pos rfl]; exact o1.mono (fun b _ => hmine b)) (by unfold Row.rel; rw [if_pos rfl]; exact o2.mono (fun b _ => hmine b)) a1 a2 (fun v hv => by
    rcases hv with rfl | rfl
    · exact fr _ _ _ o1
    · exact fr _ _ _ o2)
  exact ⟨x, ρ1, rfl, fun ρ' h' => hx ρ' (e1 ρ' h').1 (e1 ρ' h').2, s1, p1 bs hd⟩
/-- What a function leaves, as its callers want it. -/
theorem Sat.ownR {g : G} {ρ : Env} {A : AS} {a : Act} {w : World} (h : Sat g ρ A a w) {k : Nat} {rk : RK} {xs : List rk.El} (hk : findR A.rw k = some (some ⟨rk, xs, true⟩)) : OwnR w g.mine rk (ρ.r k) xs := by
  have := h.rel.rw k _ hk
  unfold Row.rel at this
  rw [if_pos rfl] at this
  exact this
theorem Sat.apart {g : G} {ρ : Env} {A : AS} {a : Act} {w : World} (h : Sat g ρ A a w) {k k' : Nat} {R R' : Row} (hk : findR A.rw k = some (some R)) (hk' : findR A.rw k' = some (some R')) (hw : R.wr = true) (hw' : R'.wr = true) (hne : k ≠ k') : Apart (ρ.r k) (ρ.r k') := fun b hb => h.rel.rr k R k' R' hk hk' hw hw' hne b hb
/-- The surroundings of a call that may write two rows. -/
def gS (W : World) (S : Nat → Prop) : G := ⟨0, W, S, Nat.zero_le _⟩
theorem Sat.chg {W : World} {S : Nat → Prop} {ρ : Env} {A : AS} {a : Act} {w : World} (h : Sat (gS W S) ρ A a w) : Chg W w S := ⟨h.rel.bel.os, h.rel.bel.tape, h.rel.bel.output, h.rel.bel.size, fun i hi hs => h.rel.kept.2 i hi hs⟩
theorem start2own {W : World} {S : Nat → Prop} {LV PV : Value} {ls : List La} {ps : List Pa} (h1 : OwnR W (gS W S).mine .la LV ls) (h2 : OwnR W (gS W S).mine .pa PV ps) (ha : Apart PV LV) :
    ∃ ρ : Env, ρ.r 0 = LV ∧ ρ.r 1 = PV ∧ Sat (gS W S) ρ ⟨[], [], [(0, some ⟨.la, ls, true⟩), (1, some ⟨.pa, ps, true⟩)]⟩ ⟨#[], []⟩ W := by
  have s0 := Sat.base (gS W S) env0
  have s1 := s0.newRow (d := 0) (R := ⟨.la, ls, true⟩) (v := LV) rfl (by unfold Row.rel; rw [if_pos rfl]; exact h1) (fun l hl => absurd rfl hl) (fun j R' hj => by cases hj)
  have s2 := s1.newRow (d := 1) (R := ⟨.pa, ps, true⟩) (v := PV) rfl (by unfold Row.rel; rw [if_pos rfl]; exact h2) (fun l hl => absurd rfl hl) (fun j R' hj hw b hb => by
    simp only at hj ⊢
    rw [findR_set] at hj
    split at hj
    · rename_i e
      subst e
      rw [if_pos rfl]
      exact ha b hb
    · cases hj)
  exact ⟨_, rfl, rfl, s2⟩
end Go.Proofs.YtclohjmakcfikaaDoor.Ex

/- accountingref34: finding. -/
namespace Go.Proofs.YtclohjmakcfikaaDoor.Ff
open Go.RowKit Go.Proofs.YtclohjmakcfikaaDoorW.PrintWords Go.Proofs.YtclohjmakcfikaaDoor.Ex
set_option linter.unusedVariables false
set_option linter.unusedSimpArgs false
set_option maxRecDepth 100000
def fi {α : Type} (p : α → Bool) : List α → Int → Int
  | [], _ => -1
  | x :: t, k => if p x = true then k else fi p t (k + 1)
theorem fi_yes {α : Type} {p : α → Bool} {l : List α} {k : Nat} (d : α) (h : k < l.length) (hp : p (l.getD k d) = true) (j : Int) : fi p (l.drop k) j = j := by
  rw [List.drop_eq_getElem_cons h]
  rw [List.getD_eq_getElem?_getD, List.getElem?_eq_getElem h] at hp
  simp only [fi]
  have hp' : p l[k] = true := hp
  rw [if_pos hp']
theorem fi_no {α : Type} {p : α → Bool} {l : List α} {k : Nat} (d : α) (h : k < l.length) (hp : p (l.getD k d) = false) (j : Int) : fi p (l.drop k) j = fi p (l.drop (k + 1)) (j + 1) := by
  rw [List.drop_eq_getElem_cons h]
  rw [List.getD_eq_getElem?_getD, List.getElem?_eq_getElem h] at hp
  simp only [fi]
  have hp' : p l[k] = false := hp
  rw [if_neg (by rw [hp']; decide)]
theorem fi_end {α : Type} {p : α → Bool} {l : List α} {k : Nat} (h : l.length ≤ k) (j : Int) : fi p (l.drop k) j = -1 := by
  rw [List.drop_eq_nil_of_le h]; rfl
def findS (kind seq : Int) (ps : List Pa) : Int := fi (fun p => p.kind == kind && p.seq == seq) ps 0
theorem find_calls {W : World} {LV PV : Value} {ls : List La} {ps : List Pa} (h1 : Src W LV .la ls) (h2 : Src W PV .pa ps) (q v pr kind seq : Int) :
    Calls Tryd.prog 49 #[.agg #[.int .i64 q, .int .i64 v, .int .i64 pr, LV, PV], .int .i64 kind, .int .i64 seq] W fun e w1 => e = .returned (.int .i64 (findS kind seq ps)) ∧ Below W.heap.size W w1 := by
  obtain ⟨ρ, e1, e2, hS⟩ := start2 h1 h2
  have hlen : ps.length ≤ 9223372036854775807 := by obtain ⟨_, _, _, h, _⟩ := h2; exact h.2
  refine (calls_awp (f := 49) (vs := [.agg #[.int .i64 q, .int .i64 v, .int .i64 pr, LV, PV], .int .i64 kind, .int .i64 seq]) (cx_ok (C := []) (nt := 34) spc_nil) mixed_ok Tryd.func49 rfl rfl hS (avs := [.agg [.v (.int .i64 q), .v (.int .i64 v), .v (.int .i64 pr), .row 0, .row 1], .one (.v (.int .i64 kind)), .one (.v (.int .i64 seq))])
    (fun ρ' h => ⟨⟨_, rfl, rfl, rfl, rfl, row_rel h (by simp [findR]) e1 h1, row_rel h (by simp [findR]) e2 h2, trivial⟩, rfl, rfl, trivial⟩) (le_of_ble (by kernel_rfl)) (K := fun v A => v = .one (.v (.int .i64 (findS kind seq ps)))) ?_).mono ?_
  · conv => whnf
    refine LoopP.intro (cx_ok spc_nil) mixed_ok (ι := Nat) (fun k => ⟨[(7, .one (.v (.int .i64 (k : Int)))), (3, .one (.ptr 13 0)), (1, .one (.v (.int .i64 kind))), (2, .one (.v (.int .i64 seq)))], [(13, 26, [.v (.int .i64 q), .v (.int .i64 v), .v (.int .i64 pr), .row 0, .row 1])], [(0, some ⟨.la, ls, false⟩), (1, some ⟨.pa, ps, false⟩)]⟩) (fun k => k ≤ ps.length ∧ findS kind seq ps = fi (fun p => p.kind == kind && p.seq == seq) (ps.drop k) k) (fun k => ps.length - k) 0 ?_ ?_ ?_
    · exact ⟨Nat.zero_le _, by simp [findS]⟩
    · exact ⟨⟨rfl, rfl, rfl, rfl, trivial⟩, ⟨⟨rfl, rfl, rfl, rfl, rfl, rfl, trivial⟩, trivial⟩, ⟨⟨rfl, rfl⟩, ⟨rfl, rfl⟩, trivial⟩, by kernel_rfl⟩
    · rintro k ⟨hk, hfi⟩
      conv => whnf
      refine cond_ (fun h => ?_) (fun h => ?_)
      · have hlt : k < ps.length := by have := of_decide_eq_true h; omega
        have next : (fun p : Pa => p.kind == kind && p.seq == seq) (ps.getD k zPa) = false → k + 1 ≤ ps.length ∧ findS kind seq ps = fi (fun p => p.kind == kind && p.seq == seq) (ps.drop (k + 1)) ((k + 1 : Nat) : Int) := fun hp => ⟨hlt, by rw [hfi, fi_no zPa hlt hp]; simp⟩
        conv => whnf
        refine ⟨by omega, ?_⟩
        conv => whnf
        refine cond_ (fun ha => ?_) (fun ha => ?_)
        · conv => whnf
          refine ⟨by omega, ?_⟩
          conv => whnf
          refine cond_ (fun hb => ?_) (fun hb => ?_)
          · conv => whnf
            exact int_ (hfi.trans (fi_yes zPa hlt (andR_t ha hb) _)).symm
          · conv => whnf
            exact ⟨k + 1, next (andR_t ha hb), by omega, ⟨up_ (by omega), rfl, rfl, rfl, trivial⟩, ⟨⟨rfl, rfl, rfl, rfl, rfl, rfl, trivial⟩, trivial⟩, ⟨⟨rfl, rfl⟩, ⟨rfl, rfl⟩, trivial⟩, by kernel_rfl⟩
        · conv => whnf
          exact ⟨k + 1, next (andR_f ha), by omega, ⟨up_ (by omega), rfl, rfl, rfl, trivial⟩, ⟨⟨rfl, rfl, rfl, rfl, rfl, rfl, trivial⟩, trivial⟩, ⟨⟨rfl, rfl⟩, ⟨rfl, rfl⟩, trivial⟩, by kernel_rfl⟩
      · conv => whnf
        have := of_decide_eq_false h
        exact int_ (hfi.trans (fi_end (by omega) _)).symm
  · rintro e w1 ⟨x, v, A1, ρ1, a1, rfl, hv, rfl, hS1, _⟩
    exact ⟨by rw [show x = _ from hv], hS1.rel.bel⟩
end Go.Proofs.YtclohjmakcfikaaDoor.Ff

/- Parts of values: fifo.part, accountingref34.Part, Share; far. No condition but 64 bits. -/
namespace Go.Proofs.YtclohjmakcfikaaDoor.Ff
open Go.RowKit Go.Proofs.YtclohjmakcfikaaDoorW.PrintWords Go.Proofs.YtclohjmakcfikaaDoor.Ex
set_option linter.unusedVariables false
set_option linter.unusedSimpArgs false
set_option maxRecDepth 100000
def spMD (f : Int → Int → Int → Int → Int × Int) : Sp := fun d args k => match args with
  | [.one (.v (.int .i64 a)), .one (.v (.int .i64 b)), .one (.v (.int .i64 c)), .one (.v (.int .i64 m))] => .ob (I64 a ∧ I64 b ∧ I64 c) (k (.tup [(false, [.v (.int .i64 (f a b c m).1)]), (false, [.v (.int .i64 (f a b c m).2)])]))
  | _ => .fail
theorem md_ok {g : G} {bs : Nat} : SpOk Tryd.prog g bs 60 (spMD Md.md) := sp_val ⟨_, Tryd.func60, by decide +kernel, rfl⟩ (by
  intro d args k A r h hb
  unfold spMD at h hb
  split at h
  · rename_i a b c m
    simp only [M.go] at h
    simp only [M.obl] at hb
    refine ⟨_, h, hb.2, fun ρ a0 w vs hR hv => ?_⟩
    match vs, hv with
    | [v1, v2, v3, v4], ⟨h1, h2, h3, h4, _⟩ =>
      have e1 : v1 = _ := h1
      have e2 : v2 = _ := h2
      have e3 : v3 = _ := h3
      have e4 : v4 = _ := h4
      subst e1 e2 e3 e4
      refine (Md.MulDiv_calls a b c m (Md.md a b c m).1 (Md.md a b c m).2 w (by unfold Md.MulDiv_f; rw [if_pos (show Md.I64 a ∧ Md.I64 b ∧ Md.I64 c from hb.1)])).mono ?_
      rintro e w1 ⟨rfl, hbel⟩
      exact ⟨_, rfl, fun ρ' => ⟨_, rfl, rfl, rfl, trivial⟩, hbel⟩
  · cases h)
theorem rmd_ok {g : G} {bs : Nat} : SpOk Tryd.prog g bs 78 (spMD Md.md) := sp_val ⟨_, Tryd.func78, by decide +kernel, rfl⟩ (by
  intro d args k A r h hb
  unfold spMD at h hb
  split at h
  · rename_i a b c m
    simp only [M.go] at h
    simp only [M.obl] at hb
    refine ⟨_, h, hb.2, fun ρ a0 w vs hR hv => ?_⟩
    match vs, hv with
    | [v1, v2, v3, v4], ⟨h1, h2, h3, h4, _⟩ =>
      have e1 : v1 = _ := h1
      have e2 : v2 = _ := h2
      have e3 : v3 = _ := h3
      have e4 : v4 = _ := h4
      subst e1 e2 e3 e4
      refine (Md.RMulDiv_calls a b c m (Md.md a b c m).1 (Md.md a b c m).2 w (by unfold Md.MulDiv_f; rw [if_pos (show Md.I64 a ∧ Md.I64 b ∧ Md.I64 c from hb.1)])).mono ?_
      rintro e w1 ⟨rfl, hbel⟩
      exact ⟨_, rfl, fun ρ' => ⟨_, rfl, rfl, rfl, trivial⟩, hbel.below⟩
  · cases h)
def partS (v n o : Int) : Int := if n = o then v else (Md.md v n o 4).1
theorem part_calls (v q n : Int) (W : World) (hv : I64 v) (hq : I64 q) (hn : I64 n) : Calls Tryd.prog 41 #[.int .i64 v, .int .i64 q, .int .i64 n] W fun e w1 => e = .returned (.int .i64 (partS v q n)) ∧ Below W.heap.size W w1 := by
  refine (calls_awp (f := 41) (vs := [.int .i64 v, .int .i64 q, .int .i64 n]) (cx_ok (C := [(60, spMD Md.md)]) (spc_cons md_ok spc_nil)) mixed_ok Tryd.func41 rfl rfl (start0 W) (avs := [.one (.v (.int .i64 v)), .one (.v (.int .i64 q)), .one (.v (.int .i64 n))]) (fun _ _ => ⟨rfl, rfl, rfl, trivial⟩) (le_of_ble (by kernel_rfl)) (K := fun x A => x = .one (.v (.int .i64 (partS v q n)))) ?_).mono ?_
  · conv => whnf
    refine cond_ (fun h => ?_) (fun h => ?_)
    · conv => whnf
      exact int_ (by rw [partS, if_pos (beq_iff_eq.1 h)])
    · conv => whnf
      refine ⟨⟨hv, hq, hn⟩, ?_⟩
      conv => whnf
      exact int_ (by rw [partS, if_neg (fun e => by rw [e] at h; simp at h)])
  · rintro e w1 ⟨x, v, A1, ρ1, a1, rfl, hv, rfl, hS1, _⟩
    exact ⟨by rw [show x = _ from hv], hS1.rel.bel⟩
end Go.Proofs.YtclohjmakcfikaaDoor.Ff

/- What a step of the stock is, in plain words: fifo (kn, lc: which of the two it is). No condition. -/
namespace Go.Proofs.YtclohjmakcfikaaDoor.Ff
open Go.RowKit Go.Proofs.YtclohjmakcfikaaDoorW.PrintWords Go.Proofs.YtclohjmakcfikaaDoor.Ex
set_option linter.unusedVariables false
abbrev wr (n : Int) : Int := IntKind.i64.wrap n
def layerS (seq : Int) (la : List La) : Int := fi (fun l => l.seq == seq) la 0
def takeS (la : List La) (i : Nat) (q : Int) : List La × Int :=
  let x := la.getD i zLa
  let v := partS x.value q x.qty
  if x.qty = q then (la.take i ++ la.drop (i + 1), v) else (la.set i { x with qty := wr (x.qty - q), value := wr (x.value - v) }, v)
def issueS : List La → Int → Int → List La × Int
  | [], q, v => ([], v)
  | x :: r, q, v => if 0 < q then (if x.qty ≤ q then issueS r (wr (q - x.qty)) (wr (v + partS x.value x.qty x.qty)) else ({ x with qty := wr (x.qty - q), value := wr (x.value - partS x.value q x.qty) } :: r, wr (v + partS x.value q x.qty))) else (x :: r, v)
structure St where
  q : Int
  v : Int
  pr : Int
  la : List La
  pa : List Pa
def knF (pa : List Pa) (seq : Int) : Bool := decide (0 ≤ fi (fun p => p.seq == seq) pa 0)
def knR (pa : List Pa) (seq : Int) : Bool := decide (0 ≤ findS 1 seq pa) || decide (0 ≤ findS 2 seq pa)
def zC (s : Int) : Co := ⟨s, 0, 0, 0⟩
/-- A movement on a stock: error, cost, layers, what is kept. -/
def moveS (lc : Bool) (s : St) (m : Mv) : Int × Co × List La × List Pa :=
  if m.kind = 1 then (0, ⟨m.seq, m.qty, m.cost, 0⟩, s.la ++ [⟨m.seq, m.lot, m.qty, m.cost⟩], s.pa ++ [⟨m.seq, m.kind, m.lot, m.qty, m.cost, 0, 0⟩])
  else if m.kind = 2 then
    if s.q < m.qty then (21, zC m.seq, s.la, s.pa) else
    let r := issueS s.la m.qty 0
    (0, ⟨m.seq, wr (0 - m.qty), wr (0 - r.2), 0⟩, r.1, s.pa ++ [⟨m.seq, m.kind, m.lot, m.qty, r.2, 0, 0⟩])
  else if m.kind = 3 then
    let k := findS 2 m.ref s.pa
    let p := s.pa.getD k.toNat zPa
    if k < 0 then (28, zC m.seq, s.la, s.pa) else
    if wr (p.qty - p.used) < m.qty then (21, zC m.seq, s.la, s.pa) else
    let v := partS (wr (p.value - p.uval)) m.qty (wr (p.qty - p.used))
    (0, ⟨m.seq, m.qty, v, 0⟩, s.la ++ [⟨m.seq, p.lot, m.qty, v⟩], s.pa.set k.toNat { p with used := wr (p.used + m.qty), uval := wr (p.uval + v) })
  else if m.kind = 4 then
    let k := findS 1 m.ref s.pa
    let p := s.pa.getD k.toNat zPa
    let i := layerS m.ref s.la
    if k < 0 then (28, zC m.seq, s.la, s.pa) else
    if wr (p.qty - p.used) < m.qty then (21, zC m.seq, s.la, s.pa) else
    if i < 0 then (21, zC m.seq, s.la, s.pa) else
    if (s.la.getD i.toNat zLa).qty < m.qty then (21, zC m.seq, s.la, s.pa) else
    let r := takeS s.la i.toNat m.qty
    (0, ⟨m.seq, wr (0 - m.qty), wr (0 - r.2), wr (r.2 - m.cost)⟩, r.1, s.pa.set k.toNat { p with used := wr (p.used + m.qty) })
  else if m.kind = 5 then
    let k := findS 1 m.ref s.pa
    let p := s.pa.getD k.toNat zPa
    let i := layerS m.ref s.la
    let x := s.la.getD i.toNat zLa
    let a := partS m.cost x.qty p.qty
    if k < 0 then (28, zC m.seq, s.la, s.pa) else
    if lc = true ∧ wr (p.qty - p.used) < m.qty then (21, zC m.seq, s.la, s.pa) else
    if i < 0 then (0, ⟨m.seq, 0, 0, m.cost⟩, s.la, s.pa) else
    (0, ⟨m.seq, 0, a, wr (m.cost - a)⟩, s.la.set i.toNat { x with value := wr (x.value + a) }, s.pa)
  else (10, zC m.seq, s.la, s.pa)
def farS (n : Int) : Bool := decide (n < -1000000000000000) || decide (1000000000000000 < n)
def overS (q v var : Int) (la : List La) : Bool := la.any (fun l => farS l.value) || decide (1000000000 < q) || farS v || farS var
def oneM (m : Mv) : Int := Co.oneS m.day m.item m.kind m.qty m.cost m.lot m.ref
/-- A step: error, state, cost. -/
def stepS (kn : List Pa → Int → Bool) (lc : Bool) (s : St) (m : Mv) : Int × St × Co :=
  let r := moveS lc s m
  let q := wr (s.q + r.2.1.qty)
  let v := wr (s.v + r.2.1.value)
  if oneM m ≠ 0 then (oneM m, ⟨0, 0, 0, [], []⟩, zC 0) else
  if kn s.pa m.seq = true then (8, ⟨0, 0, 0, [], []⟩, zC 0) else
  if r.1 ≠ 0 then (r.1, ⟨0, 0, 0, [], []⟩, zC 0) else
  if overS q v r.2.1.var r.2.2.1 = true then (4, ⟨0, 0, 0, [], []⟩, zC 0) else
  (0, ⟨q, v, s.pr, r.2.2.1, r.2.2.2⟩, r.2.1)
end Go.Proofs.YtclohjmakcfikaaDoor.Ff

/- Small functions of both: parts, shares, layers, far. No condition. -/
namespace Go.Proofs.YtclohjmakcfikaaDoor.Ff
open Go.RowKit Go.Proofs.YtclohjmakcfikaaDoorW.PrintWords Go.Proofs.YtclohjmakcfikaaDoor.Ex
set_option linter.unusedVariables false
set_option linter.unusedSimpArgs false
set_option maxRecDepth 100000
def spPart : Sp := fun d args k => match args with
  | [.one (.v (.int .i64 a)), .one (.v (.int .i64 b)), .one (.v (.int .i64 c))] => .ob (I64 a ∧ I64 b ∧ I64 c) (k (.one (.v (.int .i64 (partS a b c)))))
  | _ => .fail
theorem part_ok' {g : G} {bs f : Nat} (hfn : FnOk Tryd.prog f) (hc : ∀ v q n W, I64 v → I64 q → I64 n → Calls Tryd.prog f #[.int .i64 v, .int .i64 q, .int .i64 n] W fun e w1 => e = .returned (.int .i64 (partS v q n)) ∧ Below W.heap.size W w1) : SpOk Tryd.prog g bs f spPart := sp_val hfn (by
  intro d args k A r h hb
  unfold spPart at h hb
  split at h
  · rename_i a b c
    simp only [M.go] at h
    simp only [M.obl] at hb
    refine ⟨_, h, hb.2, fun ρ a0 w vs hR hv => ?_⟩
    match vs, hv with
    | [v1, v2, v3], ⟨h1, h2, h3, _⟩ =>
      have e1 : v1 = _ := h1
      have e2 : v2 = _ := h2
      have e3 : v3 = _ := h3
      subst e1 e2 e3
      refine (hc a b c w hb.1.1 hb.1.2.1 hb.1.2.2).mono ?_
      rintro e w1 ⟨rfl, hbel⟩
      exact ⟨_, rfl, fun ρ' => rfl, hbel⟩
  · cases h)
theorem rpart_calls (v q n : Int) (W : World) (hv : I64 v) (hq : I64 q) (hn : I64 n) : Calls Tryd.prog 69 #[.int .i64 v, .int .i64 q, .int .i64 n] W fun e w1 => e = .returned (.int .i64 (partS v q n)) ∧ Below W.heap.size W w1 := by
  refine (calls_awp (f := 69) (vs := [.int .i64 v, .int .i64 q, .int .i64 n]) (cx_ok (C := [(78, spMD Md.md)]) (nt := 21) (spc_cons rmd_ok spc_nil)) mixed_ok Tryd.func69 rfl rfl (start0 W) (avs := [.one (.v (.int .i64 v)), .one (.v (.int .i64 q)), .one (.v (.int .i64 n))]) (fun _ _ => ⟨rfl, rfl, rfl, trivial⟩) (le_of_ble (by kernel_rfl)) (K := fun x A => x = .one (.v (.int .i64 (partS v q n)))) ?_).mono ?_
  · conv => whnf
    refine cond_ (fun h => ?_) (fun h => ?_)
    · conv => whnf
      exact int_ (by rw [partS, if_pos (beq_iff_eq.1 h)])
    · conv => whnf
      refine ⟨⟨hv, hq, hn⟩, ?_⟩
      conv => whnf
      exact int_ (by rw [partS, if_neg (fun e => by rw [e] at h; simp at h)])
  · rintro e w1 ⟨x, v, A1, ρ1, a1, rfl, hv, rfl, hS1, _⟩
    exact ⟨by rw [show x = _ from hv], hS1.rel.bel⟩
theorem part_ok {g : G} {bs : Nat} : SpOk Tryd.prog g bs 41 spPart := part_ok' ⟨_, Tryd.func41, by decide +kernel, rfl⟩ (fun v q n W h1 h2 h3 => part_calls v q n W h1 h2 h3)
theorem rpart_ok {g : G} {bs : Nat} : SpOk Tryd.prog g bs 69 spPart := part_ok' ⟨_, Tryd.func69, by decide +kernel, rfl⟩ (fun v q n W h1 h2 h3 => rpart_calls v q n W h1 h2 h3)
/-! ### the share of an issue -/
def spShare : Sp := fun d args k => match args with
  | [.agg [.v (.int .i64 seq), .v (.int .i64 kind), .v (.string lot), .v (.int .i64 qty), .v (.int .i64 value), .v (.int .i64 used), .v (.int .i64 uval)], .one (.v (.int .i64 q))] => .ob (I64 q) (k (.one (.v (.int .i64 (partS (wr (value - uval)) q (wr (qty - used)))))))
  | _ => .fail
theorem share_calls (p : Pa) (q : Int) (W : World) (hq : I64 q) : Calls Tryd.prog 67 #[.agg #[.int .i64 p.seq, .int .i64 p.kind, .string p.lot, .int .i64 p.qty, .int .i64 p.value, .int .i64 p.used, .int .i64 p.uval], .int .i64 q] W fun e w1 => e = .returned (.int .i64 (partS (wr (p.value - p.uval)) q (wr (p.qty - p.used)))) ∧ Below W.heap.size W w1 := by
  refine (calls_awp (f := 67) (vs := [.agg #[.int .i64 p.seq, .int .i64 p.kind, .string p.lot, .int .i64 p.qty, .int .i64 p.value, .int .i64 p.used, .int .i64 p.uval], .int .i64 q]) (cx_ok (C := [(69, spPart)]) (nt := 17) (spc_cons rpart_ok spc_nil)) mixed_ok Tryd.func67 rfl rfl (start0 W) (avs := [.agg [.v (.int .i64 p.seq), .v (.int .i64 p.kind), .v (.string p.lot), .v (.int .i64 p.qty), .v (.int .i64 p.value), .v (.int .i64 p.used), .v (.int .i64 p.uval)], .one (.v (.int .i64 q))]) (fun _ _ => ⟨⟨_, rfl, rfl, rfl, rfl, rfl, rfl, rfl, rfl, trivial⟩, rfl, trivial⟩) (le_of_ble (by kernel_rfl)) (K := fun x A => x = .one (.v (.int .i64 (partS (wr (p.value - p.uval)) q (wr (p.qty - p.used)))))) ?_).mono ?_
  · conv => whnf
    refine ⟨⟨i64_wrap _, hq, i64_wrap _⟩, ?_⟩
    conv => whnf
    rfl
  · rintro e w1 ⟨x, v, A1, ρ1, a1, rfl, hv, rfl, hS1, _⟩
    exact ⟨by rw [show x = _ from hv], hS1.rel.bel⟩
theorem share_ok {g : G} {bs : Nat} : SpOk Tryd.prog g bs 67 spShare := sp_val ⟨_, Tryd.func67, by decide +kernel, rfl⟩ (by
  intro d args k A r h hb
  unfold spShare at h hb
  split at h
  · rename_i seq kind lot qty value used uval q
    simp only [M.go] at h
    simp only [M.obl] at hb
    refine ⟨_, h, hb.2, fun ρ a0 w vs hR hv => ?_⟩
    match vs, hv with
    | [v1, v2], ⟨⟨us, e1, hu⟩, h2, _⟩ =>
      match us, hu with
      | [u1, u2, u3, u4, u5, u6, u7], ⟨k1, k2, k3, k4, k5, k6, k7, _⟩ =>
        have e2 : v2 = _ := h2
        simp only [L.rel] at k1 k2 k3 k4 k5 k6 k7
        subst e1 e2 k1 k2 k3 k4 k5 k6 k7
        refine (share_calls ⟨seq, kind, lot, qty, value, used, uval⟩ q w hb.1).mono ?_
        rintro e w1 ⟨rfl, hbel⟩
        exact ⟨_, rfl, fun ρ' => rfl, hbel⟩
  · cases h)
/-! ### far -/
def spFar : Sp := fun d args k => match args with
  | [.one (.v (.int .i64 a))] => k (.one (.v (.bool (farS a))))
  | _ => .fail
theorem far_calls (n : Int) (W : World) : Calls Tryd.prog 43 #[.int .i64 n] W fun e w1 => e = .returned (.bool (farS n)) ∧ Below W.heap.size W w1 := by
  refine (calls_awp (f := 43) (vs := [.int .i64 n]) (cx_ok (C := []) (nt := 7) spc_nil) mixed_ok Tryd.func43 rfl rfl (start0 W) (avs := [.one (.v (.int .i64 n))]) (fun _ _ => ⟨rfl, trivial⟩) (le_of_ble (by kernel_rfl)) (K := fun x A => x = .one (.v (.bool (farS n)))) ?_).mono ?_
  · conv => whnf
    refine InlP.intro (X' := ⟨tab, [], 600, 18⟩) ⟨tab_ok, elt_ok, spc_nil⟩ mixed_ok Tryd.func61 (by kernel_rfl) rfl rfl (le_of_ble (by kernel_rfl)) (by kernel_rfl) ?_
    conv => whnf
    refine cond_ (fun h => ?_) (fun h => ?_)
    · conv => whnf
      refine ⟨by kernel_rfl, ?_⟩
      conv => whnf
      have := of_decide_eq_true h
      refine bool_ ?_
      unfold farS
      rw [decide_eq_true this, Bool.true_or]
      simp
      omega
    · conv => whnf
      have h1 := of_decide_eq_false h
      refine cond_ (fun h => ?_) (fun h => ?_)
      · conv => whnf
        refine ⟨by kernel_rfl, ?_⟩
        conv => whnf
        have := of_decide_eq_true h
        refine bool_ ?_
        unfold farS
        rw [decide_eq_true this, Bool.or_true]
        simp
        omega
      · conv => whnf
        refine ⟨by kernel_rfl, ?_⟩
        conv => whnf
        have h2 := of_decide_eq_false h
        refine bool_ ?_
        unfold farS
        rw [decide_eq_false h1, decide_eq_false h2]
        simp
  · rintro e w1 ⟨x, v, A1, ρ1, a1, rfl, hv, rfl, hS1, _⟩
    exact ⟨by rw [show x = _ from hv], hS1.rel.bel⟩
theorem far_ok {g : G} {bs : Nat} : SpOk Tryd.prog g bs 43 spFar := sp_val ⟨_, Tryd.func43, by decide +kernel, rfl⟩ (by
  intro d args k A r h hb
  unfold spFar at h hb
  split at h
  · rename_i a
    refine ⟨_, h, hb, fun ρ a0 w vs hR hv => ?_⟩
    match vs, hv with
    | [v1], ⟨h1, _⟩ =>
      have e1 : v1 = _ := h1
      subst e1
      refine (far_calls a w).mono ?_
      rintro e w1 ⟨rfl, hbel⟩
      exact ⟨_, rfl, fun ρ' => rfl, hbel⟩
  · cases h)
end Go.Proofs.YtclohjmakcfikaaDoor.Ff

/- Copies of a stock. No condition. -/
namespace Go.Proofs.YtclohjmakcfikaaDoor.Ff
open Go.RowKit Go.Proofs.YtclohjmakcfikaaDoorW.PrintWords Go.Proofs.YtclohjmakcfikaaDoor.Ex
set_option linter.unusedVariables false
set_option linter.unusedSimpArgs false
set_option maxRecDepth 100000
/-- A stock with rows of its own. -/
def NewSt (W w1 : World) (q v pr : Int) (ls : List La) (ps : List Pa) (e : Ending) : Prop := ∃ V1 V2, e = .returned (.agg #[.int .i64 q, .int .i64 v, .int .i64 pr, V1, V2]) ∧ OwnR w1 (fun b => W.heap.size ≤ b) .la V1 ls ∧ OwnR w1 (fun b => W.heap.size ≤ b) .pa V2 ps ∧ Apart V1 V2 ∧ Apart V2 V1 ∧ Below W.heap.size W w1
theorem gW_mine {W : World} {b : Nat} (h : (gW W).mine b) : W.heap.size ≤ b := h.1
theorem newSt {W w1 : World} {ρ1 : Env} {A1 : AS} {a1 : Act} {x : Value} {v : AV} {q vv pr : Int} {k1 k2 : Nat} {ls : List La} {ps : List Pa} (hS : Sat (gW W) ρ1 A1 a1 w1) (hv : v.rel ρ1 x) (e : v = .agg [.v (.int .i64 q), .v (.int .i64 vv), .v (.int .i64 pr), .row k1, .row k2]) (h1 : findR A1.rw k1 = some (some ⟨.la, ls, true⟩)) (h2 : findR A1.rw k2 = some (some ⟨.pa, ps, true⟩)) (hne : k1 ≠ k2) : NewSt W w1 q vv pr ls ps (.returned x) := by
  subst e
  obtain ⟨us, e1, hu⟩ := hv
  match us, hu with
  | [u1, u2, u3, u4, u5], ⟨c1, c2, c3, c4, c5, _⟩ =>
    simp only [L.rel] at c1 c2 c3 c4 c5
    obtain ⟨c4, _⟩ := c4
    obtain ⟨c5, _⟩ := c5
    subst e1 c1 c2 c3 c4 c5
    exact ⟨_, _, rfl, (hS.ownR h1).mono (fun b _ hb => gW_mine hb), (hS.ownR h2).mono (fun b _ hb => gW_mine hb), hS.apart h1 h2 rfl rfl hne, hS.apart h2 h1 rfl rfl (Ne.symm hne), hS.rel.bel⟩
theorem cloned_calls {W : World} {LV PV : Value} {ls : List La} {ps : List Pa} (h1 : Src W LV .la ls) (h2 : Src W PV .pa ps) (q v pr : Int) (n1 : ls.length ≤ 1000000000) (n2 : ps.length ≤ 1000000000) :
    Calls Tryd.prog 17 #[.agg #[.int .i64 q, .int .i64 v, .int .i64 pr, LV, PV]] W (fun e w1 => NewSt W w1 q v pr ls ps e) := by
  obtain ⟨ρ, e1, e2, hS⟩ := start2 h1 h2
  refine (calls_awp (f := 17) (vs := [.agg #[.int .i64 q, .int .i64 v, .int .i64 pr, LV, PV]]) (cx_ok (C := []) (nt := 26) spc_nil) mixed_ok Tryd.func17 rfl rfl hS (avs := [.agg [.v (.int .i64 q), .v (.int .i64 v), .v (.int .i64 pr), .row 0, .row 1]])
    (fun ρ' h => ⟨⟨_, rfl, rfl, rfl, rfl, row_rel h (by simp [findR]) e1 h1, row_rel h (by simp [findR]) e2 h2, trivial⟩, trivial⟩) (le_of_ble (by kernel_rfl)) (K := fun x A => ∃ k1 k2, k1 ≠ k2 ∧ x = .agg [.v (.int .i64 q), .v (.int .i64 v), .v (.int .i64 pr), .row k1, .row k2] ∧ findR A.rw k1 = some (some ⟨.la, ls, true⟩) ∧ findR A.rw k2 = some (some ⟨.pa, ps, true⟩)) ?_).mono ?_
  · conv => whnf
    refine ⟨by omega, ?_⟩
    conv => whnf
    refine ⟨by omega, ?_⟩
    conv => whnf
    refine ⟨by kernel_rfl, ?_⟩
    conv => whnf
    refine ⟨by simp, ?_⟩
    conv => whnf
    refine ⟨by simp, ?_⟩
    conv => whnf
    exact ⟨_, _, (by decide : (18 : Nat) ≠ 22), rfl, rfl, rfl⟩
  · rintro e w1 ⟨x, u, A1, ρ1, a1, rfl, hv, ⟨k1, k2, hne, e, f1, f2⟩, hS1, _⟩
    exact newSt hS1 hv e f1 f2 hne
theorem Clone_calls {W : World} {LV PV : Value} {ls : List La} {ps : List Pa} (h1 : Src W LV .la ls) (h2 : Src W PV .pa ps) (q v pr : Int) (n1 : ls.length ≤ 1000000000) (n2 : ps.length ≤ 1000000000) :
    Calls Tryd.prog 16 #[.agg #[.int .i64 q, .int .i64 v, .int .i64 pr, LV, PV]] W (fun e w1 => NewSt W w1 q v pr ls ps e) := by
  obtain ⟨ρ, e1, e2, hS⟩ := start2 h1 h2
  refine (calls_awp (f := 16) (vs := [.agg #[.int .i64 q, .int .i64 v, .int .i64 pr, LV, PV]]) (cx_ok (C := []) (nt := 14) spc_nil) mixed_ok Tryd.func16 rfl rfl hS (avs := [.agg [.v (.int .i64 q), .v (.int .i64 v), .v (.int .i64 pr), .row 0, .row 1]])
    (fun ρ' h => ⟨⟨_, rfl, rfl, rfl, rfl, row_rel h (by simp [findR]) e1 h1, row_rel h (by simp [findR]) e2 h2, trivial⟩, trivial⟩) (le_of_ble (by kernel_rfl)) (K := fun x A => ∃ k1 k2, k1 ≠ k2 ∧ x = .agg [.v (.int .i64 q), .v (.int .i64 v), .v (.int .i64 pr), .row k1, .row k2] ∧ findR A.rw k1 = some (some ⟨.la, ls, true⟩) ∧ findR A.rw k2 = some (some ⟨.pa, ps, true⟩)) ?_).mono ?_
  · conv => whnf
    refine ⟨by simp; omega, ?_⟩
    conv => whnf
    refine ⟨by simp; omega, ?_⟩
    conv => whnf
    exact ⟨_, _, (by decide : (16 : Nat) ≠ 21), rfl, rfl, rfl⟩
  · rintro e w1 ⟨x, u, A1, ρ1, a1, rfl, hv, ⟨k1, k2, hne, e, f1, f2⟩, hS1, _⟩
    exact newSt hS1 hv e f1 f2 hne
end Go.Proofs.YtclohjmakcfikaaDoor.Ff

/- accountingref34: layer, Fits; what is told of callees that read a stock. No condition. -/
namespace Go.Proofs.YtclohjmakcfikaaDoor.Ff
open Go.RowKit Go.Proofs.YtclohjmakcfikaaDoorW.PrintWords Go.Proofs.YtclohjmakcfikaaDoor.Ex
set_option linter.unusedVariables false
set_option linter.unusedSimpArgs false
set_option maxRecDepth 100000
theorem layer_calls {W : World} {LV PV : Value} {ls : List La} {ps : List Pa} (h1 : Src W LV .la ls) (h2 : Src W PV .pa ps) (q v pr seq : Int) :
    Calls Tryd.prog 68 #[.agg #[.int .i64 q, .int .i64 v, .int .i64 pr, LV, PV], .int .i64 seq] W fun e w1 => e = .returned (.int .i64 (layerS seq ls)) ∧ Below W.heap.size W w1 := by
  obtain ⟨ρ, e1, e2, hS⟩ := start2 h1 h2
  have hlen : ls.length ≤ 9223372036854775807 := by obtain ⟨_, _, _, h, _⟩ := h1; exact h.2
  refine (calls_awp (f := 68) (vs := [.agg #[.int .i64 q, .int .i64 v, .int .i64 pr, LV, PV], .int .i64 seq]) (cx_ok (C := []) (nt := 22) spc_nil) mixed_ok Tryd.func68 rfl rfl hS (avs := [.agg [.v (.int .i64 q), .v (.int .i64 v), .v (.int .i64 pr), .row 0, .row 1], .one (.v (.int .i64 seq))])
    (fun ρ' h => ⟨⟨_, rfl, rfl, rfl, rfl, row_rel h (by simp [findR]) e1 h1, row_rel h (by simp [findR]) e2 h2, trivial⟩, rfl, trivial⟩) (le_of_ble (by kernel_rfl)) (K := fun v A => v = .one (.v (.int .i64 (layerS seq ls)))) ?_).mono ?_
  · conv => whnf

    refine LoopP.intro (cx_ok spc_nil) mixed_ok (ι := Nat) (fun k => ⟨[(5, .one (.v (.int .i64 (k : Int)))), (2, .one (.ptr 12 0)), (1, .one (.v (.int .i64 seq)))], [(12, 26, [.v (.int .i64 q), .v (.int .i64 v), .v (.int .i64 pr), .row 0, .row 1])], [(0, some ⟨.la, ls, false⟩), (1, some ⟨.pa, ps, false⟩)]⟩) (fun k => k ≤ ls.length ∧ layerS seq ls = fi (fun l => l.seq == seq) (ls.drop k) k) (fun k => ls.length - k) 0 ?_ ?_ ?_
    · exact ⟨Nat.zero_le _, by simp [layerS]⟩
    · exact ⟨⟨rfl, rfl, rfl, trivial⟩, ⟨⟨rfl, rfl, rfl, rfl, rfl, rfl, trivial⟩, trivial⟩, ⟨⟨rfl, rfl⟩, ⟨rfl, rfl⟩, trivial⟩, by kernel_rfl⟩
    · rintro k ⟨hk, hfi⟩
      conv => whnf
      refine cond_ (fun h => ?_) (fun h => ?_)
      · have hlt : k < ls.length := by have := of_decide_eq_true h; omega
        have next : (fun l : La => l.seq == seq) (ls.getD k zLa) = false → k + 1 ≤ ls.length ∧ layerS seq ls = fi (fun l => l.seq == seq) (ls.drop (k + 1)) ((k + 1 : Nat) : Int) := fun hp => ⟨hlt, by rw [hfi, fi_no zLa hlt hp]; simp⟩
        conv => whnf
        refine ⟨by omega, ?_⟩
        conv => whnf
        refine cond_ (fun ha => ?_) (fun ha => ?_)
        · conv => whnf
          exact int_ (hfi.trans (fi_yes zLa hlt ha _)).symm
        · conv => whnf
          exact ⟨k + 1, next ha, by omega, ⟨up_ (by omega), rfl, rfl, trivial⟩, ⟨⟨rfl, rfl, rfl, rfl, rfl, rfl, trivial⟩, trivial⟩, ⟨⟨rfl, rfl⟩, ⟨rfl, rfl⟩, trivial⟩, by kernel_rfl⟩
      · conv => whnf
        have := of_decide_eq_false h
        exact int_ (hfi.trans (fi_end (by omega) _)).symm
  · rintro e w1 ⟨x, v, A1, ρ1, a1, rfl, hv, rfl, hS1, _⟩
    exact ⟨by rw [show x = _ from hv], hS1.rel.bel⟩
theorem any_yes {α : Type} {p : α → Bool} {l : List α} {k : Nat} (d : α) (h : k < l.length) (hp : p (l.getD k d) = true) : (l.drop k).any p = true := by
  rw [List.drop_eq_getElem_cons h]
  rw [List.getD_eq_getElem?_getD, List.getElem?_eq_getElem h] at hp
  have hp' : p l[k] = true := hp
  rw [List.any_cons, hp', Bool.true_or]
theorem any_no {α : Type} {p : α → Bool} {l : List α} {k : Nat} (d : α) (h : k < l.length) (hp : p (l.getD k d) = false) : (l.drop k).any p = (l.drop (k + 1)).any p := by
  rw [List.drop_eq_getElem_cons h]
  rw [List.getD_eq_getElem?_getD, List.getElem?_eq_getElem h] at hp
  have hp' : p l[k] = false := hp
  rw [List.any_cons, hp', Bool.false_or]
theorem any_end {α : Type} {p : α → Bool} {l : List α} {k : Nat} (h : l.length ≤ k) : (l.drop k).any p = false := by
  rw [List.drop_eq_nil_of_le h]; rfl
theorem fits_calls {W : World} {LV PV : Value} {ls : List La} {ps : List Pa} (h1 : Src W LV .la ls) (h2 : Src W PV .pa ps) (q v pr var : Int) :
    Calls Tryd.prog 30 #[.agg #[.int .i64 q, .int .i64 v, .int .i64 pr, LV, PV], .int .i64 var] W fun e w1 => e = .returned (.bool (!overS q v var ls)) ∧ Below W.heap.size W w1 := by
  obtain ⟨ρ, e1, e2, hS⟩ := start2 h1 h2
  have hlen : ls.length ≤ 9223372036854775807 := by obtain ⟨_, _, _, h, _⟩ := h1; exact h.2
  refine (calls_awp (f := 30) (vs := [.agg #[.int .i64 q, .int .i64 v, .int .i64 pr, LV, PV], .int .i64 var]) (cx_ok (C := []) (nt := 50) spc_nil) mixed_ok Tryd.func30 rfl rfl hS (avs := [.agg [.v (.int .i64 q), .v (.int .i64 v), .v (.int .i64 pr), .row 0, .row 1], .one (.v (.int .i64 var))])
    (fun ρ' h => ⟨⟨_, rfl, rfl, rfl, rfl, row_rel h (by simp [findR]) e1 h1, row_rel h (by simp [findR]) e2 h2, trivial⟩, rfl, trivial⟩) (le_of_ble (by kernel_rfl)) (K := fun x A => x = .one (.v (.bool (!overS q v var ls)))) ?_).mono ?_
  · conv => whnf
    refine cond_ (fun hq => ?_) (fun hq => ?_)
    · conv => whnf
      exact bool_ (by simp only [overS, hq, Bool.or_true, Bool.true_or, Bool.not_true])
    conv => whnf
    refine cond_ (fun hv1 => ?_) (fun hv1 => ?_)
    · conv => whnf
      exact bool_ (by simp only [overS, farS, hv1, Bool.or_true, Bool.true_or, Bool.not_true])
    conv => whnf
    refine cond_ (fun hv2 => ?_) (fun hv2 => ?_)
    · conv => whnf
      exact bool_ (by simp only [overS, farS, hv2, Bool.or_true, Bool.true_or, Bool.not_true])
    conv => whnf
    refine cond_ (fun hr1 => ?_) (fun hr1 => ?_)
    · conv => whnf
      exact bool_ (by simp only [overS, farS, hr1, Bool.or_true, Bool.true_or, Bool.not_true])
    conv => whnf
    refine cond_ (fun hr2 => ?_) (fun hr2 => ?_)
    · conv => whnf
      exact bool_ (by simp only [overS, farS, hr2, Bool.or_true, Bool.true_or, Bool.not_true])
    conv => whnf
    refine LoopP.intro (cx_ok spc_nil) mixed_ok (ι := Nat) (fun k => ⟨[(5, .one (.v (.int .i64 (k : Int)))), (2, .one (.ptr 12 0))], [(12, 26, [.v (.int .i64 q), .v (.int .i64 v), .v (.int .i64 pr), .row 0, .row 1])], [(0, some ⟨.la, ls, false⟩), (1, some ⟨.pa, ps, false⟩)]⟩) (fun k => k ≤ ls.length ∧ overS q v var ls = (ls.drop k).any fun l => farS l.value) (fun k => ls.length - k) 0 ?_ ?_ ?_
    · exact ⟨Nat.zero_le _, by simp only [overS, farS, hq, hv1, hv2, hr1, hr2, Bool.or_false, List.drop_zero]⟩
    · exact ⟨⟨rfl, rfl, trivial⟩, ⟨⟨rfl, rfl, rfl, rfl, rfl, rfl, trivial⟩, trivial⟩, ⟨⟨rfl, rfl⟩, ⟨rfl, rfl⟩, trivial⟩, by kernel_rfl⟩
    · rintro k ⟨hk, hfi⟩
      conv => whnf
      refine cond_ (fun h => ?_) (fun h => ?_)
      · have hlt : k < ls.length := by have := of_decide_eq_true h; omega
        conv => whnf
        refine ⟨by omega, ?_⟩
        conv => whnf
        refine cond_ (fun ha => ?_) (fun ha => ?_)
        · conv => whnf
          have ha' : decide (1000000000000000 < (ls.getD k zLa).value) = true := ha
          exact bool_ (by rw [hfi, any_yes zLa hlt (by simp only [farS, ha', Bool.or_true])]; rfl)
        · conv => whnf
          refine ⟨by omega, ?_⟩
          conv => whnf
          have ha' : decide (1000000000000000 < (ls.getD k zLa).value) = false := ha
          refine cond_ (fun hb => ?_) (fun hb => ?_)
          · conv => whnf
            have hb' : decide ((ls.getD k zLa).value < -1000000000000000) = true := hb
            exact bool_ (by rw [hfi, any_yes zLa hlt (by simp only [farS, hb', Bool.true_or])]; rfl)
          · conv => whnf
            have hb' : decide ((ls.getD k zLa).value < -1000000000000000) = false := hb
            exact ⟨k + 1, ⟨hlt, by rw [hfi, any_no zLa hlt (by simp only [farS, ha', hb', Bool.or_false])]⟩, by omega, ⟨up_ (by omega), rfl, trivial⟩, ⟨⟨rfl, rfl, rfl, rfl, rfl, rfl, trivial⟩, trivial⟩, ⟨⟨rfl, rfl⟩, ⟨rfl, rfl⟩, trivial⟩, by kernel_rfl⟩
      · conv => whnf
        have := of_decide_eq_false h
        exact bool_ (by rw [hfi, any_end (by omega)]; rfl)
  · rintro e w1 ⟨x, v, A1, ρ1, a1, rfl, hv, rfl, hS1, _⟩
    exact ⟨by rw [show x = _ from hv], hS1.rel.bel⟩
/-! ### what is told of them -/
def ints : List AV → Option (List Int)
  | [] => some []
  | .one (.v (.int .i64 n)) :: r => match ints r with | some ns => some (n :: ns) | none => none
  | _ :: _ => none
theorem ints_args {ρ : Env} : ∀ {xs : List AV} {ns : List Int} {vs : List Value}, ints xs = some ns → Args ρ xs vs → vs = ns.map (fun n => Value.int .i64 n)
  | [], ns, [], h, _ => by
    simp only [ints, Option.some.injEq] at h
    subst h
    rfl
  | a :: r, ns, v :: vs, h, k => by
    unfold ints at h
    split at h
    · rename_i e
      cases e
    · rename_i n r' e
      injection e with e1 e2
      subst e1 e2
      split at h
      · rename_i ms hms
        injection h with h
        subst h
        have h1 : v = .int .i64 n := k.1
        rw [List.map_cons, ints_args hms k.2, h1]
      · cases h
    · cases h
  | [], _, _ :: _, _, k => k.elim
  | _ :: _, _, [], _, k => k.elim
/-- A callee that reads a stock and some numbers. -/
def spStV (n : Nat) (f : Int → Int → List La → List Pa → List Int → Value) : Sp := fun d args k => match args with
  | .agg [.v (.int .i64 q), .v (.int .i64 v), .v (.int .i64 pr), x, y] :: r => match ints r with
    | some ns => match Nat.beq ns.length n with
      | true => rdRow .la x fun ls => rdRow .pa y fun ps => k (.one (.v (f q v ls ps ns)))
      | false => .fail
    | none => .fail
  | _ => .fail
theorem spStV_ok {g : G} {bs F n : Nat} {f : Int → Int → List La → List Pa → List Int → Value} (hfn : FnOk Tryd.prog F) (hc : ∀ W LV PV (ls : List La) (ps : List Pa) q v pr ns, ns.length = n → Src W LV .la ls → Src W PV .pa ps → Calls Tryd.prog F (Value.agg #[.int .i64 q, .int .i64 v, .int .i64 pr, LV, PV] :: ns.map fun n => Value.int .i64 n).toArray W fun e w1 => e = .returned (f q v ls ps ns) ∧ Below W.heap.size W w1) : SpOk Tryd.prog g bs F (spStV n f) := sp_val hfn (by
  intro d args k A r h hb
  unfold spStV at h hb
  split at h
  · rename_i q v pr x y rest
    split at h
    · rename_i ns hns
      simp only [hns] at hb
      split at h
      · rename_i hn
        simp only [hn] at hb
        obtain ⟨ls, h1, hb1, hl⟩ := rdRow_s h hb
        obtain ⟨ps, h2, hb2, hp⟩ := rdRow_s h1 hb1
        refine ⟨_, h2, hb2, fun ρ a0 w vs hR hv => ?_⟩
        match vs, hv with
        | v1 :: vs, ⟨⟨us, e1, hu⟩, hrest⟩ =>
          match us, hu with
          | [u1, u2, u3, u4, u5], ⟨k1, k2, k3, k4, k5, _⟩ =>
            simp only [L.rel] at k1 k2 k3
            subst e1 k1 k2 k3
            rw [ints_args hns hrest]
            refine (hc w u4 u5 ls ps q v pr ns (Nat.eq_of_beq_eq_true hn) (hl _ _ _ _ _ hR k4) (hp _ _ _ _ _ hR k5)).mono ?_
            rintro e w1 ⟨rfl, hbel⟩
            exact ⟨_, rfl, fun ρ' => rfl, hbel⟩
      · cases h
    · cases h
  · cases h)
def spFind : Sp := spStV 2 fun q v ls ps ns => .int .i64 (match ns with | [a, b] => findS a b ps | _ => 0)
def spLayer : Sp := spStV 1 fun q v ls ps ns => .int .i64 (match ns with | [a] => layerS a ls | _ => 0)
def spFits : Sp := spStV 1 fun q v ls ps ns => .bool (match ns with | [a] => !overS q v a ls | _ => false)
theorem find_ok {g : G} {bs : Nat} : SpOk Tryd.prog g bs 49 spFind := spStV_ok ⟨_, Tryd.func49, by decide +kernel, rfl⟩ (fun W LV PV ls ps q v pr ns hn h1 h2 => by
  match ns, hn with
  | [a, b], _ => exact find_calls h1 h2 q v pr a b)
theorem layer_ok {g : G} {bs : Nat} : SpOk Tryd.prog g bs 68 spLayer := spStV_ok ⟨_, Tryd.func68, by decide +kernel, rfl⟩ (fun W LV PV ls ps q v pr ns hn h1 h2 => by
  match ns, hn with
  | [a], _ => exact layer_calls h1 h2 q v pr a)
theorem fits_ok {g : G} {bs : Nat} : SpOk Tryd.prog g bs 30 spFits := spStV_ok ⟨_, Tryd.func30, by decide +kernel, rfl⟩ (fun W LV PV ls ps q v pr ns hn h1 h2 => by
  match ns, hn with
  | [a], _ => exact fits_calls h1 h2 q v pr a)
/-- Copies. -/
def spClone : Sp := fun d args k => match args with
  | [.agg [.v (.int .i64 q), .v (.int .i64 v), .v (.int .i64 pr), x, y]] => rdRow .la x fun ls => rdRow .pa y fun ps => .ob (ls.length ≤ 1000000000 ∧ ps.length ≤ 1000000000) (new2 d ⟨.la, ls, true⟩ ⟨.pa, ps, true⟩ (k (.agg [.v (.int .i64 q), .v (.int .i64 v), .v (.int .i64 pr), .row d, .row (d + 500)])))
  | _ => .fail
theorem own_row {w : World} {p : Nat → Prop} {rk : RK} {v : Value} {xs : List rk.El} (h : OwnR w p rk v xs) {ρ : Env} {d : Nat} (e : ρ.r d = v) : (L.row d).rel ρ v := by
  obtain ⟨B, m, c, e1⟩ := own_slice h
  exact ⟨e.symm, B, m, c, e1⟩
theorem clone_ok' {g : G} {bs f : Nat} (hfn : FnOk Tryd.prog f) (hc : ∀ W LV PV (ls : List La) (ps : List Pa) q v pr, Src W LV .la ls → Src W PV .pa ps → ls.length ≤ 1000000000 → ps.length ≤ 1000000000 → Calls Tryd.prog f #[.agg #[.int .i64 q, .int .i64 v, .int .i64 pr, LV, PV]] W (fun e w1 => NewSt W w1 q v pr ls ps e)) : SpOk Tryd.prog g bs f spClone := sp_new2 hfn (by
  intro d args k A r h hb
  unfold spClone at h hb
  split at h
  · rename_i q v pr x y
    obtain ⟨ls, h1, hb1, hl⟩ := rdRow_s h hb
    obtain ⟨ps, h2, hb2, hp⟩ := rdRow_s h1 hb1
    simp only [M.go] at h2
    simp only [M.obl] at hb2
    refine ⟨_, _, _, _, _, h2, hb2.2, fun ρ a0 w vs hR hv => ?_⟩
    match vs, hv with
    | [v1], ⟨⟨us, e1, hu⟩, _⟩ =>
      match us, hu with
      | [u1, u2, u3, u4, u5], ⟨k1, k2, k3, k4, k5, _⟩ =>
        simp only [L.rel] at k1 k2 k3
        subst e1 k1 k2 k3
        refine (hc w u4 u5 ls ps q v pr (hl _ _ _ _ _ hR k4) (hp _ _ _ _ _ hR k5) hb2.1.1 hb2.1.2).mono ?_
        rintro e w1 ⟨V1, V2, rfl, o1, o2, a1, a2, hbel⟩
        exact ⟨_, V1, V2, rfl, fun ρ' r1 r2 => ⟨_, rfl, rfl, rfl, rfl, own_row o1 r1, own_row o2 r2, trivial⟩, o1, o2, a1, a2, hbel⟩
  · cases h)
theorem cloned_ok {g : G} {bs : Nat} : SpOk Tryd.prog g bs 17 spClone := clone_ok' ⟨_, Tryd.func17, by decide +kernel, rfl⟩ (fun W LV PV ls ps q v pr h1 h2 n1 n2 => cloned_calls h1 h2 q v pr n1 n2)
theorem Clone_ok {g : G} {bs : Nat} : SpOk Tryd.prog g bs 16 spClone := clone_ok' ⟨_, Tryd.func16, by decide +kernel, rfl⟩ (fun W LV PV ls ps q v pr h1 h2 n1 n2 => Clone_calls h1 h2 q v pr n1 n2)
end Go.Proofs.YtclohjmakcfikaaDoor.Ff

/- A movement in plain words, case by case; the taking of units from the first layers. No condition. -/
namespace Go.Proofs.YtclohjmakcfikaaDoor.Ff
open Go.RowKit Go.Proofs.YtclohjmakcfikaaDoorW.PrintWords Go.Proofs.YtclohjmakcfikaaDoor.Ex
set_option linter.unusedVariables false
set_option linter.unusedSimpArgs false
section
variable {lc : Bool} {s : St} {m : Mv}
theorem moveS_1 (h : m.kind = 1) : moveS lc s m = (0, ⟨m.seq, m.qty, m.cost, 0⟩, s.la ++ [⟨m.seq, m.lot, m.qty, m.cost⟩], s.pa ++ [⟨m.seq, m.kind, m.lot, m.qty, m.cost, 0, 0⟩]) := by
  unfold moveS; rw [if_pos h]
theorem moveS_2e (h : m.kind = 2) (h2 : s.q < m.qty) : moveS lc s m = (21, zC m.seq, s.la, s.pa) := by
  unfold moveS; rw [if_neg (by omega), if_pos h, if_pos h2]
theorem moveS_2 (h : m.kind = 2) (h2 : ¬ s.q < m.qty) : moveS lc s m = (0, ⟨m.seq, wr (0 - m.qty), wr (0 - (issueS s.la m.qty 0).2), 0⟩, (issueS s.la m.qty 0).1, s.pa ++ [⟨m.seq, m.kind, m.lot, m.qty, (issueS s.la m.qty 0).2, 0, 0⟩]) := by
  unfold moveS; rw [if_neg (by omega), if_pos h, if_neg h2]
theorem moveS_3a (h : m.kind = 3) (h2 : findS 2 m.ref s.pa < 0) : moveS lc s m = (28, zC m.seq, s.la, s.pa) := by
  unfold moveS; simp only; rw [if_neg (by omega), if_neg (by omega), if_pos h, if_pos h2]
theorem moveS_3b (h : m.kind = 3) (hk : ¬ findS 2 m.ref s.pa < 0) (h2 : wr ((s.pa.getD (findS 2 m.ref s.pa).toNat zPa).qty - (s.pa.getD (findS 2 m.ref s.pa).toNat zPa).used) < m.qty) : moveS lc s m = (21, zC m.seq, s.la, s.pa) := by
  unfold moveS; simp only; rw [if_neg (by omega), if_neg (by omega), if_pos h, if_neg hk, if_pos h2]
theorem moveS_3 (h : m.kind = 3) (hk : ¬ findS 2 m.ref s.pa < 0) {p : Pa} (hp : s.pa.getD (findS 2 m.ref s.pa).toNat zPa = p) (h2 : ¬ wr (p.qty - p.used) < m.qty) : moveS lc s m = (0, ⟨m.seq, m.qty, partS (wr (p.value - p.uval)) m.qty (wr (p.qty - p.used)), 0⟩, s.la ++ [⟨m.seq, p.lot, m.qty, partS (wr (p.value - p.uval)) m.qty (wr (p.qty - p.used))⟩], s.pa.set (findS 2 m.ref s.pa).toNat { p with used := wr (p.used + m.qty), uval := wr (p.uval + partS (wr (p.value - p.uval)) m.qty (wr (p.qty - p.used))) }) := by
  unfold moveS; simp only; rw [if_neg (by omega), if_neg (by omega), if_pos h, if_neg hk, hp, if_neg h2]
theorem moveS_4a (h : m.kind = 4) (h2 : findS 1 m.ref s.pa < 0) : moveS lc s m = (28, zC m.seq, s.la, s.pa) := by
  unfold moveS; simp only; rw [if_neg (by omega), if_neg (by omega), if_neg (by omega), if_pos h, if_pos h2]
theorem moveS_4b (h : m.kind = 4) (hk : ¬ findS 1 m.ref s.pa < 0) {p : Pa} (hp : s.pa.getD (findS 1 m.ref s.pa).toNat zPa = p) (h2 : wr (p.qty - p.used) < m.qty) : moveS lc s m = (21, zC m.seq, s.la, s.pa) := by
  unfold moveS; simp only; rw [if_neg (by omega), if_neg (by omega), if_neg (by omega), if_pos h, if_neg hk, hp, if_pos h2]
theorem moveS_4c (h : m.kind = 4) (hk : ¬ findS 1 m.ref s.pa < 0) {p : Pa} (hp : s.pa.getD (findS 1 m.ref s.pa).toNat zPa = p) (h2 : ¬ wr (p.qty - p.used) < m.qty) (h3 : layerS m.ref s.la < 0) : moveS lc s m = (21, zC m.seq, s.la, s.pa) := by
  unfold moveS; simp only; rw [if_neg (by omega), if_neg (by omega), if_neg (by omega), if_pos h, if_neg hk, hp, if_neg h2, if_pos h3]
theorem moveS_4d (h : m.kind = 4) (hk : ¬ findS 1 m.ref s.pa < 0) {p : Pa} (hp : s.pa.getD (findS 1 m.ref s.pa).toNat zPa = p) (h2 : ¬ wr (p.qty - p.used) < m.qty) (hi : ¬ layerS m.ref s.la < 0) (h3 : (s.la.getD (layerS m.ref s.la).toNat zLa).qty < m.qty) : moveS lc s m = (21, zC m.seq, s.la, s.pa) := by
  unfold moveS; simp only; rw [if_neg (by omega), if_neg (by omega), if_neg (by omega), if_pos h, if_neg hk, hp, if_neg h2, if_neg hi, if_pos h3]
theorem moveS_4 (h : m.kind = 4) (hk : ¬ findS 1 m.ref s.pa < 0) {p : Pa} (hp : s.pa.getD (findS 1 m.ref s.pa).toNat zPa = p) (h2 : ¬ wr (p.qty - p.used) < m.qty) (hi : ¬ layerS m.ref s.la < 0) (h3 : ¬ (s.la.getD (layerS m.ref s.la).toNat zLa).qty < m.qty) : moveS lc s m = (0, ⟨m.seq, wr (0 - m.qty), wr (0 - (takeS s.la (layerS m.ref s.la).toNat m.qty).2), wr ((takeS s.la (layerS m.ref s.la).toNat m.qty).2 - m.cost)⟩, (takeS s.la (layerS m.ref s.la).toNat m.qty).1, s.pa.set (findS 1 m.ref s.pa).toNat { p with used := wr (p.used + m.qty) }) := by
  unfold moveS; simp only; rw [if_neg (by omega), if_neg (by omega), if_neg (by omega), if_pos h, if_neg hk, hp, if_neg h2, if_neg hi, if_neg h3]
theorem moveS_5a (h : m.kind = 5) (h2 : findS 1 m.ref s.pa < 0) : moveS lc s m = (28, zC m.seq, s.la, s.pa) := by
  unfold moveS; simp only; rw [if_neg (by omega), if_neg (by omega), if_neg (by omega), if_neg (by omega), if_pos h, if_pos h2]
theorem moveS_5b (h : m.kind = 5) (hk : ¬ findS 1 m.ref s.pa < 0) {p : Pa} (hp : s.pa.getD (findS 1 m.ref s.pa).toNat zPa = p) (h2 : lc = true ∧ wr (p.qty - p.used) < m.qty) : moveS lc s m = (21, zC m.seq, s.la, s.pa) := by
  unfold moveS; simp only; rw [if_neg (by omega), if_neg (by omega), if_neg (by omega), if_neg (by omega), if_pos h, if_neg hk, hp, if_pos h2]
theorem moveS_5c (h : m.kind = 5) (hk : ¬ findS 1 m.ref s.pa < 0) {p : Pa} (hp : s.pa.getD (findS 1 m.ref s.pa).toNat zPa = p) (h2 : ¬ (lc = true ∧ wr (p.qty - p.used) < m.qty)) (h3 : layerS m.ref s.la < 0) : moveS lc s m = (0, ⟨m.seq, 0, 0, m.cost⟩, s.la, s.pa) := by
  unfold moveS; simp only; rw [if_neg (by omega), if_neg (by omega), if_neg (by omega), if_neg (by omega), if_pos h, if_neg hk, hp, if_neg h2, if_pos h3]
theorem moveS_5 (h : m.kind = 5) (hk : ¬ findS 1 m.ref s.pa < 0) {p : Pa} (hp : s.pa.getD (findS 1 m.ref s.pa).toNat zPa = p) (h2 : ¬ (lc = true ∧ wr (p.qty - p.used) < m.qty)) (hi : ¬ layerS m.ref s.la < 0) {x : La} (hx : s.la.getD (layerS m.ref s.la).toNat zLa = x) : moveS lc s m = (0, ⟨m.seq, 0, partS m.cost x.qty p.qty, wr (m.cost - partS m.cost x.qty p.qty)⟩, s.la.set (layerS m.ref s.la).toNat { x with value := wr (x.value + partS m.cost x.qty p.qty) }, s.pa) := by
  unfold moveS; simp only; rw [if_neg (by omega), if_neg (by omega), if_neg (by omega), if_neg (by omega), if_pos h, if_neg hk, hp, if_neg h2, if_neg hi, hx]
theorem moveS_0 (h1 : m.kind ≠ 1) (h2 : m.kind ≠ 2) (h3 : m.kind ≠ 3) (h4 : m.kind ≠ 4) (h5 : m.kind ≠ 5) : moveS lc s m = (10, zC m.seq, s.la, s.pa) := by
  unfold moveS; rw [if_neg h1, if_neg h2, if_neg h3, if_neg h4, if_neg h5]
end
/-- What is looked for is where it is found, or nowhere. -/
theorem fi_cases {α : Type} (p : α → Bool) (d : α) : ∀ (l : List α) (j : Int), 0 ≤ j → (fi p l j = -1 ∧ ∀ x ∈ l, p x = false) ∨ ∃ k : Nat, k < l.length ∧ fi p l j = j + k ∧ p (l.getD k d) = true
  | [], j, _ => .inl ⟨rfl, fun x h => by cases h⟩
  | a :: r, j, hj => by
    simp only [fi]
    by_cases h : p a = true
    · rw [if_pos h]
      exact .inr ⟨0, by simp, by simp, by simpa using h⟩
    · rw [if_neg h]
      rcases fi_cases p d r (j + 1) (by omega) with ⟨e, h2⟩ | ⟨k, h1, h2, h3⟩
      · refine .inl ⟨e, fun x hx => ?_⟩
        rcases List.mem_cons.1 hx with rfl | hx
        · simpa using h
        · exact h2 x hx
      · exact .inr ⟨k + 1, by simp; omega, by rw [h2]; push_cast; omega, by simpa using h3⟩
theorem find_cases (kind seq : Int) (pa : List Pa) : (findS kind seq pa = -1) ∨ ∃ k : Nat, k < pa.length ∧ findS kind seq pa = (k : Int) ∧ (pa.getD k zPa).kind = kind ∧ (pa.getD k zPa).seq = seq := by
  rcases fi_cases (fun p : Pa => p.kind == kind && p.seq == seq) zPa pa 0 (Int.le_refl _) with ⟨h, _⟩ | ⟨k, h1, h2, h3⟩
  · exact .inl h
  · simp only [Bool.and_eq_true, beq_iff_eq] at h3
    exact .inr ⟨k, h1, by unfold findS; rw [h2]; omega, h3.1, h3.2⟩
theorem layer_cases (seq : Int) (la : List La) : (layerS seq la = -1) ∨ ∃ k : Nat, k < la.length ∧ layerS seq la = (k : Int) ∧ (la.getD k zLa).seq = seq := by
  rcases fi_cases (fun p : La => p.seq == seq) zLa la 0 (Int.le_refl _) with ⟨h, _⟩ | ⟨k, h1, h2, h3⟩
  · exact .inl h
  · simp only [beq_iff_eq] at h3
    exact .inr ⟨k, h1, by unfold layerS; rw [h2]; omega, h3⟩
theorem find_lt {kind seq : Int} {pa : List Pa} (h : ¬ findS kind seq pa < 0) : 0 ≤ findS kind seq pa ∧ findS kind seq pa < (pa.length : Int) ∧ (findS kind seq pa).toNat < pa.length := by
  rcases find_cases kind seq pa with e | ⟨k, h1, h2, _⟩
  · omega
  · omega
theorem layer_lt {seq : Int} {la : List La} (h : ¬ layerS seq la < 0) : 0 ≤ layerS seq la ∧ layerS seq la < (la.length : Int) ∧ (layerS seq la).toNat < la.length := by
  rcases layer_cases seq la with e | ⟨k, h1, h2, _⟩
  · omega
  · omega
theorem getD_set {α : Type} {l : List α} {i : Nat} {x d : α} (h : i < l.length) : (l.set i x).getD i d = x := by
  rw [List.getD_eq_getElem?_getD, List.getElem?_set_self h]; rfl
theorem row_eq {rk : RK} {xs ys : List rk.El} {w : Bool} (h : xs = ys) : some (some (⟨rk, xs, w⟩ : Row)) = some (some ⟨rk, ys, w⟩) := by rw [h]
/-- 64 bits, all along. -/
def LaI (x : La) : Prop := I64 x.seq ∧ I64 x.qty ∧ I64 x.value
def PaI (p : Pa) : Prop := I64 p.seq ∧ I64 p.kind ∧ I64 p.qty ∧ I64 p.value ∧ I64 p.used ∧ I64 p.uval
structure StI (s : St) : Prop where
  q : I64 s.q
  v : I64 s.v
  la : ∀ x ∈ s.la, LaI x
  pa : ∀ p ∈ s.pa, PaI p
structure MvI (m : Mv) : Prop where
  seq : I64 m.seq
  kind : I64 m.kind
  qty : I64 m.qty
  cost : I64 m.cost
  ref : I64 m.ref
theorem getD_mem {α : Type} {l : List α} {k : Nat} (d : α) (h : k < l.length) : l.getD k d ∈ l := by
  rw [List.getD_eq_getElem?_getD, List.getElem?_eq_getElem h]
  exact List.getElem_mem h
theorem i64_sub {a b : Int} (h : I64 (a - b)) : wr (a - b) = a - b := wrap_id h.1 h.2
theorem i64_add {a b : Int} (h : I64 (a + b)) : wr (a + b) = a + b := wrap_id h.1 h.2
theorem issueS_pos {x : La} {r : List La} {q v : Int} (hq : 0 < q) (h : x.qty ≤ q) : issueS (x :: r) q v = issueS r (wr (q - x.qty)) (wr (v + partS x.value x.qty x.qty)) := by
  simp only [issueS]; rw [if_pos hq, if_pos h]
theorem issueS_neg {x : La} {r : List La} {q v : Int} (hq : 0 < q) (h : ¬ x.qty ≤ q) : issueS (x :: r) q v = ({ x with qty := wr (x.qty - q), value := wr (x.value - partS x.value q x.qty) } :: r, wr (v + partS x.value q x.qty)) := by
  simp only [issueS]; rw [if_pos hq, if_neg h]
theorem issueS_end {la : List La} {q v : Int} (h : ¬ 0 < q ∨ la = []) : issueS la q v = (la, v) := by
  cases la with
  | nil => rfl
  | cons x r =>
    rcases h with h | h
    · simp only [issueS]; rw [if_neg h]
    · cases h
theorem takeS_1 {la : List La} {i : Nat} {q : Int} (h : (la.getD i zLa).qty = q) : takeS la i q = (la.take i ++ la.drop (i + 1), partS (la.getD i zLa).value q (la.getD i zLa).qty) := by
  unfold takeS; simp only; rw [if_pos h]
theorem takeS_2 {la : List La} {i : Nat} {q : Int} (h : ¬ (la.getD i zLa).qty = q) : takeS la i q = (la.set i { la.getD i zLa with qty := wr ((la.getD i zLa).qty - q), value := wr ((la.getD i zLa).value - partS (la.getD i zLa).value q (la.getD i zLa).qty) }, partS (la.getD i zLa).value q (la.getD i zLa).qty) := by
  unfold takeS; simp only; rw [if_neg h]
theorem wr_at {z : Int} {n : Nat} (h0 : 0 ≤ z) (h : z < n) (hn : n < 1000000000) : wr (z + 1) = z + 1 := wrap_id (by omega) (by omega)
theorem take_rm {l : List La} {z : Int} (h0 : 0 ≤ z) (h : z < l.length) (hn : l.length < 1000000000) (y w : La) : ([] ++ ((((l.set z.toNat y).set z.toNat w).take z.toNat).drop 0)) ++ ((((l.set z.toNat y).set z.toNat w).take (((l.set z.toNat y).set z.toNat w).length)).drop (wr (z + 1)).toNat) = l.take z.toNat ++ l.drop (z.toNat + 1) := by
  rw [wr_at h0 h hn, show (z + 1).toNat = z.toNat + 1 from by omega, List.set_set, List.take_length, List.drop_zero, List.nil_append, List.take_set_of_le (Nat.le_refl _), List.drop_set_of_lt (by omega)]
theorem take_up {l : List La} {Z : Nat} (h : Z < l.length) (a b : Int) : (l.set Z { l.getD Z zLa with qty := a }).set Z { (l.set Z { l.getD Z zLa with qty := a }).getD Z zLa with value := b } = l.set Z { l.getD Z zLa with qty := a, value := b } := by
  rw [List.set_set, getD_set h]
theorem sg_i64 {neg : Bool} {s : Int} (h : 0 ≤ s) : I64 (Md.sg neg s).1 := by
  unfold Md.sg I64
  split <;> split <;> simp <;> omega
theorem md_i64 (a b c m : Int) : I64 (Md.md a b c m).1 := by
  unfold Md.md
  split
  · simp [I64]
  · split
    · simp [I64]
    · refine sg_i64 ?_
      have : (0 : Int) ≤ (a.natAbs : Int) * b.natAbs / c.natAbs := Int.ediv_nonneg (Int.mul_nonneg (by omega) (by omega)) (by omega)
      split <;> omega
theorem partS_i64 {v q n : Int} (h : I64 v) : I64 (partS v q n) := by
  unfold partS
  split
  · exact h
  · exact md_i64 _ _ _ _
end Go.Proofs.YtclohjmakcfikaaDoor.Ff

/- accountingref34.move. No condition but 64 bits. -/
namespace Go.Proofs.YtclohjmakcfikaaDoor.Ff
open Go.RowKit Go.Proofs.YtclohjmakcfikaaDoorW.PrintWords Go.Proofs.YtclohjmakcfikaaDoor.Ex
set_option linter.unusedVariables false
set_option linter.unusedSimpArgs false
set_option maxRecDepth 100000
def mvL (m : Mv) : List L := [.v (.int .i64 m.seq), .v (.int .i64 m.day), .v (.string m.item), .v (.int .i64 m.kind), .v (.int .i64 m.qty), .v (.int .i64 m.cost), .v (.string m.lot), .v (.int .i64 m.ref)]
def MoveK (q v pr : Int) (r : Int × Co × List La × List Pa) (x : AV) (A : AS) : Prop := ∃ k1 k2, k1 ≠ k2 ∧ x = .tup [(true, [.v (.int .i64 q), .v (.int .i64 v), .v (.int .i64 pr), .row k1, .row k2]), (true, [.v (.int .i64 0), .v (.int .i64 r.2.1.qty), .v (.int .i64 r.2.1.value), .v (.int .i64 r.2.1.var)]), (false, [.v (.int .i64 r.1)])] ∧ findR A.rw k1 = some (some ⟨.la, r.2.2.1, true⟩) ∧ findR A.rw k2 = some (some ⟨.pa, r.2.2.2, true⟩)
def CR : List (Nat × Sp) := [(49, spFind), (68, spLayer), (69, spPart), (67, spShare)]
theorem cr_ok {g : G} {n : Nat} : ∀ f sp, lookC CR f = some sp → SpOk Tryd.prog g n f sp := spc_cons find_ok (spc_cons layer_ok (spc_cons rpart_ok (spc_cons share_ok spc_nil)))
theorem cx_at {g : G} {b nt : Nat} : CxOk Tryd.prog g ⟨tab, CR, b, nt⟩ := ⟨tab_ok, elt_ok, cr_ok⟩
theorem obl_ {p q : Prop} (k : q) (h : p := by first | (show _ = true; kernel_rfl) | exact ⟨by first | assumption | exact rfl | exact i64_wrap _ | omega, by first | assumption | exact rfl | exact i64_wrap _ | omega⟩ | exact ⟨by first | assumption | exact rfl | exact i64_wrap _ | omega, by first | assumption | exact rfl | exact i64_wrap _ | omega, by first | assumption | exact rfl | exact i64_wrap _ | omega⟩ | exact ⟨by first | assumption | exact rfl | exact i64_wrap _ | omega, by first | assumption | exact rfl | exact i64_wrap _ | omega, by first | assumption | exact rfl | exact i64_wrap _ | omega, by first | assumption | exact rfl | exact i64_wrap _ | omega⟩ | (simp only [List.length_set]; first | exact ⟨by first | assumption | exact rfl | exact i64_wrap _ | omega, by first | assumption | exact rfl | exact i64_wrap _ | omega⟩ | assumption | exact rfl | exact i64_wrap _ | omega) | assumption | exact rfl | exact i64_wrap _ | omega | (simp; omega)) : p ∧ q := ⟨h, k⟩
theorem pa_back {l : List Pa} {Z : Nat} (h : Z < l.length) (q v : Int) : (l.set Z { l.getD Z zPa with used := wr ((l.getD Z zPa).used + q) }).set Z { (l.set Z { l.getD Z zPa with used := wr ((l.getD Z zPa).used + q) }).getD Z zPa with uval := wr (((l.set Z { l.getD Z zPa with used := wr ((l.getD Z zPa).used + q) }).getD Z zPa).uval + v) } = l.set Z { l.getD Z zPa with used := wr ((l.getD Z zPa).used + q), uval := wr ((l.getD Z zPa).uval + v) } := by
  rw [List.set_set, getD_set h]
theorem la_back {l : List Pa} {Z : Nat} (h : Z < l.length) (q v : Int) (la : List La) (a b c : Int) : la ++ [La.mk a (((l.set Z { l.getD Z zPa with used := wr ((l.getD Z zPa).used + q) }).set Z { (l.set Z { l.getD Z zPa with used := wr ((l.getD Z zPa).used + q) }).getD Z zPa with uval := wr (((l.set Z { l.getD Z zPa with used := wr ((l.getD Z zPa).used + q) }).getD Z zPa).uval + v) }).getD Z zPa).lot b c] = la ++ [La.mk a (l.getD Z zPa).lot b c] := by
  rw [getD_set (by simpa using h), getD_set h]
theorem rmove_awp {g : G} (s : St) (m : Mv) (hs : StI s) (hm : MvI m) (n1 : s.la.length < 400000000) (n2 : s.pa.length < 1000000000) :
    awp Tryd.prog g (cx CR 109) (Func.body Tryd.f29 |>.getD .skip) ⟨argTm 0 [.agg [.v (.int .i64 s.q), .v (.int .i64 s.v), .v (.int .i64 s.pr), .row 0, .row 1], .agg (mvL m)], [], [(0, some ⟨.la, s.la, true⟩), (1, some ⟨.pa, s.pa, true⟩)]⟩ (fun e A1 => match e with | .e _ => False | _ => ResP tab (Func.results Tryd.f29).toList A1 (fun v => MoveK s.q s.v s.pr (moveS false s m) v A1)) := by
  unfold mvL
  conv => whnf
  refine cond_ (fun h1 => ?_) (fun h1 => ?_)
  · have h1' := beq_iff_eq.1 h1
    have e1 := moveS_1 (lc := false) (s := s) h1'
    rw [h1'] at e1
    rw [e1]
    conv => whnf
    refine ⟨by simp; omega, ?_⟩
    conv => whnf
    refine ⟨by simp; omega, ?_⟩
    conv => whnf
    refine ⟨by kernel_rfl, ?_⟩
    conv => whnf
    (refine ⟨_, _, ?_, rfl, rfl, rfl⟩; decide)
  conv => whnf
  refine cond_ (fun h2 => ?_) (fun h2 => ?_)
  · have h2' := beq_iff_eq.1 h2
    conv => whnf
    refine cond_ (fun hq => ?_) (fun hq => ?_)
    · rw [moveS_2e h2' (of_decide_eq_true hq)]
      conv => whnf
      (refine ⟨_, _, ?_, rfl, rfl, rfl⟩; decide)
    · have e2 := moveS_2 (lc := false) h2' (of_decide_eq_false hq)
      rw [h2'] at e2
      rw [e2]
      conv => whnf
      refine InlP.intro (X' := ⟨tab, CR, 1000, 38⟩) cx_at mixed_ok Tryd.func50 (by kernel_rfl) rfl rfl (le_of_ble (by kernel_rfl)) (by kernel_rfl) ?_
      conv => whnf
      refine LoopP.introR cx_at mixed_ok (ι := List La × Int × Int) (fun k => ⟨[(6, .one (.v (.int .i64 k.2.2))), (5, .one (.v (.int .i64 0))), (4, .one (.ptr 1004 0)), (2, .one (.ptr 1002 0)), (1, .one (.v (.int .i64 k.2.1)))], [(1004, 26, [.any, .any, .any, .any, .any]), (1002, 26, [.v (.int .i64 s.q), .v (.int .i64 s.v), .v (.int .i64 s.pr), .row 1900, .row 1]), (15, 28, [.any, .any, .any, .any]), (14, 26, [.any, .any, .any, .any, .any]), (13, 33, mvL m), (12, 26, [.v (.int .i64 s.q), .v (.int .i64 s.v), .v (.int .i64 s.pr), .row 0, .row 1])], [(1900, some ⟨.la, k.1, true⟩), (1, some ⟨.pa, s.pa, true⟩), (0, none)]⟩) (fun k => issueS s.la m.qty 0 = issueS k.1 k.2.1 k.2.2 ∧ (∀ x ∈ k.1, LaI x) ∧ k.1.length ≤ s.la.length ∧ I64 k.2.1 ∧ I64 k.2.2) (fun k => 2 * k.1.length + if 0 < k.2.1 then 1 else 0) (s.la, m.qty, 0) ?_ ?_ ?_
      · exact ⟨rfl, hs.la, Nat.le_refl _, hm.qty, by simp [I64]⟩
      · refine ⟨[(1900, some 0)], ⟨rfl, rfl, rfl, rfl, rfl, trivial⟩, ⟨⟨rfl, trivial⟩, ⟨rfl, rfl, rfl, rfl, rfl, rfl, trivial⟩, ⟨rfl, trivial⟩, ⟨rfl, trivial⟩, ⟨rfl, rfl, rfl, rfl, rfl, rfl, rfl, rfl, rfl, trivial⟩, ⟨rfl, rfl, rfl, rfl, rfl, rfl, trivial⟩, trivial⟩, ⟨⟨rfl, rfl⟩, ⟨rfl, rfl⟩, trivial, trivial⟩, by kernel_rfl⟩
      · rintro ⟨la, q, v⟩ ⟨hi, hla, hlen, hq64, hv64⟩
        simp only at hi hla hlen hq64 hv64
        conv => whnf
        refine cond_ (fun hp => ?_) (fun hp => ?_)
        · have hp' := of_decide_eq_true hp
          conv => whnf
          refine cond_ (fun hl => ?_) (fun hl => ?_)
          · conv => whnf
            cases la with
            | nil => simp at hl
            | cons x r =>
              refine ⟨by simp, ?_⟩
              conv => whnf
              refine InlP.intro (X' := ⟨tab, CR, 2000, 60⟩) cx_at mixed_ok Tryd.func65 (by kernel_rfl) rfl rfl (le_of_ble (by kernel_rfl)) (by kernel_rfl) ?_
              conv => whnf
              refine ⟨by simp, ?_⟩
              conv => whnf
              have hx := hla x List.mem_cons_self
              have hn : I64 (if x.qty < q then x.qty else q) := by
                split
                · exact hx.2.1
                · exact hq64
              refine ⟨⟨hx.2.2, hn, hx.2.1⟩, ?_⟩
              conv => whnf
              refine ⟨by simp, ?_⟩
              conv => whnf
              refine ⟨by simp, ?_⟩
              conv => whnf
              refine cond_ (fun he => ?_) (fun he => ?_)
              · have he' : x.qty = if x.qty < q then x.qty else q := beq_iff_eq.1 he
                conv => whnf
                refine ⟨by simp; omega, ?_⟩
                conv => whnf
                refine ⟨by simp, ?_⟩
                conv => whnf
                refine ⟨by rw [show IntKind.i64.wrap (0 + 1) = 1 from rfl]; simp; omega, ?_⟩
                conv => whnf
                refine ⟨by rw [show IntKind.i64.wrap (0 + 1) = 1 from rfl]; simp; simp at hlen; omega, ?_⟩
                conv => whnf
                refine ⟨by kernel_rfl, ?_⟩
                conv => whnf
                have hxq : x.qty ≤ q := by split at he' <;> omega
                refine ⟨(r, wr (q - (if x.qty < q then x.qty else q)), wr (v + partS x.value (if x.qty < q then x.qty else q) x.qty)), ?f, ?m, [(1900, some 2056)], ?l⟩
                case l =>
                  (refine ⟨?_, ?_, ?_, by kernel_rfl⟩ <;> repeat' (first | exact trivial | exact rfl | assumption | apply And.intro))
                  show ([] ++ ((((x :: r).set 0 _).set 0 _).take 0).drop 0) ++ ((((x :: r).set 0 _).set 0 _).take (((x :: r).set 0 _).set 0 _).length).drop 1 = r
                  simp
                case m =>
                  simp only [List.length_cons]
                  split <;> split <;> omega
                case f =>
                  rw [← he']
                  exact ⟨hi.trans (issueS_pos hp' hxq), fun y hy => hla y (List.mem_cons_of_mem _ hy), by simp at hlen ⊢; omega, i64_wrap _, i64_wrap _⟩
              · have he' : ¬ x.qty = if x.qty < q then x.qty else q := fun e => by
                  have : (x.qty == if x.qty < q then x.qty else q) = false := he
                  rw [← e] at this
                  simp at this
                conv => whnf
                refine ⟨by kernel_rfl, ?_⟩
                conv => whnf
                have hnq : (if x.qty < q then x.qty else q) = q := by
                  split
                  · rename_i hlt; rw [if_pos hlt] at he'; exact absurd rfl he'
                  · rfl
                have hxq : ¬ x.qty ≤ q := by
                  rw [hnq] at he'
                  intro hle
                  have : ¬ x.qty < q := fun hlt => by rw [if_pos hlt] at hnq; omega
                  omega
                refine ⟨({ x with qty := wr (x.qty - q), value := wr (x.value - partS x.value q x.qty) } :: r, wr (q - (if x.qty < q then x.qty else q)), wr (v + partS x.value (if x.qty < q then x.qty else q) x.qty)), ?f, ?m, [], ?l⟩
                case l =>
                  (refine ⟨?_, ?_, ?_, by kernel_rfl⟩ <;> repeat' (first | exact trivial | exact rfl | assumption | apply And.intro))
                  show La.mk x.seq x.lot (wr (x.qty - (if x.qty < q then x.qty else q))) (wr (x.value - partS x.value (if x.qty < q then x.qty else q) x.qty)) :: r = _
                  rw [hnq]
                case m =>
                  simp only [List.length_cons]
                  rw [hnq, show wr (q - q) = 0 from by rw [Int.sub_self]; rfl, if_pos hp']
                  simp
                case f =>
                  rw [hnq]
                  have hend : issueS s.la m.qty 0 = issueS ({ x with qty := wr (x.qty - q), value := wr (x.value - partS x.value q x.qty) } :: r) (wr (q - q)) (wr (v + partS x.value q x.qty)) := by
                    rw [hi, issueS_neg hp' hxq, issueS_end (.inl (by rw [Int.sub_self]; decide))]
                  refine ⟨hend, fun y hy => ?_, hlen, i64_wrap _, i64_wrap _⟩
                  rcases List.mem_cons.1 hy with rfl | hy
                  · exact ⟨hx.1, i64_wrap _, i64_wrap _⟩
                  · exact hla y (List.mem_cons_of_mem _ hy)
          · conv => whnf
            have hll : la = [] := by
              have := of_decide_eq_false hl
              cases la with
              | nil => rfl
              | cons _ _ => simp at this
            refine ⟨by kernel_rfl, ?_⟩
            conv => whnf
            refine ⟨by simp; omega, ?_⟩
            conv => whnf
            refine ⟨by kernel_rfl, ?_⟩
            conv => whnf
            rw [issueS_end (.inr hll)] at hi
            rw [hi]
            (refine ⟨_, _, ?_, rfl, rfl, rfl⟩; decide)
        · conv => whnf
          refine ⟨by kernel_rfl, ?_⟩
          conv => whnf
          refine ⟨by simp; omega, ?_⟩
          conv => whnf
          refine ⟨by kernel_rfl, ?_⟩
          conv => whnf
          rw [issueS_end (.inl (of_decide_eq_false hp))] at hi
          rw [hi]
          (refine ⟨_, _, ?_, rfl, rfl, rfl⟩; decide)
  conv => whnf
  refine cond_ (fun h3 => ?_) (fun h3 => ?_)
  · have h3' := beq_iff_eq.1 h3
    conv => whnf
    refine InlP.intro (X' := ⟨tab, CR, 1000, 78⟩) cx_at mixed_ok Tryd.func51 (by kernel_rfl) rfl rfl (le_of_ble (by kernel_rfl)) (by kernel_rfl) ?_
    conv => whnf
    refine InlP.intro (X' := ⟨tab, CR, 2000, 35⟩) cx_at mixed_ok Tryd.func66 (by kernel_rfl) rfl rfl (le_of_ble (by kernel_rfl)) (by kernel_rfl) ?_
    conv => whnf
    refine cond_ (fun h3b => ?_) (fun h3b => absurd (h3b.symm.trans h3) (by decide))
    conv => whnf
    refine cond_ (fun hf => ?_) (fun hf => ?_)
    · have hf' : findS 2 m.ref s.pa < 0 := of_decide_eq_true hf
      rw [moveS_3a h3' hf']
      ((conv => whnf) <;> repeat (refine obl_ ?_; conv => whnf))
      (refine ⟨_, _, ?_, rfl, rfl, rfl⟩; decide)
    · have hf' : ¬ findS 2 m.ref s.pa < 0 := of_decide_eq_false hf
      obtain ⟨hz0, hz1, hz2⟩ := find_lt hf'
      have hP := hs.pa _ (getD_mem zPa hz2)
      have hqty := hm.qty
      ((conv => whnf) <;> repeat (refine obl_ ?_; conv => whnf))
      refine cond_ (fun hq => ?_) (fun hq => ?_)
      · rw [moveS_3b h3' hf' (of_decide_eq_true hq)]
        ((conv => whnf) <;> repeat (refine obl_ ?_; conv => whnf))
        (refine ⟨_, _, ?_, rfl, rfl, rfl⟩; decide)
      · rw [moveS_3 h3' hf' rfl (of_decide_eq_false hq)]
        ((conv => whnf) <;> repeat (refine obl_ ?_; conv => whnf))
        refine ⟨_, _, ?_, rfl, row_eq ?_, row_eq ?_⟩
        · decide
        · exact la_back hz2 _ _ _ _ _ _
        · exact pa_back hz2 _ _
  conv => whnf
  refine cond_ (fun h4 => ?_) (fun h4 => ?_)
  · have h4' := beq_iff_eq.1 h4
    conv => whnf
    refine InlP.intro (X' := ⟨tab, CR, 1000, 74⟩) cx_at mixed_ok Tryd.func52 (by kernel_rfl) rfl rfl (le_of_ble (by kernel_rfl)) (by kernel_rfl) ?_
    conv => whnf
    refine InlP.intro (X' := ⟨tab, CR, 2000, 35⟩) cx_at mixed_ok Tryd.func66 (by kernel_rfl) rfl rfl (le_of_ble (by kernel_rfl)) (by kernel_rfl) ?_
    conv => whnf
    refine cond_ (fun h3b => absurd (h3b.symm.trans h3) (by decide)) (fun h3b => ?_)
    conv => whnf
    refine cond_ (fun hf => ?_) (fun hf => ?_)
    · have hf' : findS 1 m.ref s.pa < 0 := of_decide_eq_true hf
      rw [moveS_4a h4' hf']
      ((conv => whnf) <;> repeat (refine obl_ ?_; conv => whnf))
      (refine ⟨_, _, ?_, rfl, rfl, rfl⟩; decide)
    have hf' : ¬ findS 1 m.ref s.pa < 0 := of_decide_eq_false hf
    obtain ⟨hz0, hz1, hz2⟩ := find_lt hf'
    have hqty := hm.qty
    ((conv => whnf) <;> repeat (refine obl_ ?_; conv => whnf))
    refine cond_ (fun hq => ?_) (fun hq => ?_)
    · rw [moveS_4b h4' hf' rfl (of_decide_eq_true hq)]
      ((conv => whnf) <;> repeat (refine obl_ ?_; conv => whnf))
      (refine ⟨_, _, ?_, rfl, rfl, rfl⟩; decide)
    have hq' := of_decide_eq_false hq
    ((conv => whnf) <;> repeat (refine obl_ ?_; conv => whnf))
    refine cond_ (fun hl => ?_) (fun hl => ?_)
    · have hl' : layerS m.ref s.la < 0 := of_decide_eq_true hl
      rw [moveS_4c h4' hf' rfl hq' hl']
      ((conv => whnf) <;> repeat (refine obl_ ?_; conv => whnf))
      (refine ⟨_, _, ?_, rfl, rfl, rfl⟩; decide)
    have hl' : ¬ layerS m.ref s.la < 0 := of_decide_eq_false hl
    obtain ⟨hy0, hy1, hy2⟩ := layer_lt hl'
    have hX := hs.la _ (getD_mem zLa hy2)
    have hX1 := hX.2.1
    have hX2 := hX.2.2
    ((conv => whnf) <;> repeat (refine obl_ ?_; conv => whnf))
    refine cond_ (fun hlq => ?_) (fun hlq => ?_)
    · rw [moveS_4d h4' hf' rfl hq' hl' (of_decide_eq_true hlq)]
      ((conv => whnf) <;> repeat (refine obl_ ?_; conv => whnf))
      (refine ⟨_, _, ?_, rfl, rfl, rfl⟩; decide)
    rw [moveS_4 h4' hf' rfl hq' hl' (of_decide_eq_false hlq)]
    ((conv => whnf) <;> repeat (refine obl_ ?_; conv => whnf))
    have hy3 : layerS m.ref s.la ≤ (s.la.length : Int) := by omega
    have hw := wr_at hy0 hy1 (by omega)
    have hw1 : 0 ≤ wr (layerS m.ref s.la + 1) := by omega
    have hw2 : wr (layerS m.ref s.la + 1) ≤ (s.la.length : Int) := by omega
    refine InlP.intro (X' := ⟨tab, CR, 3000, 60⟩) cx_at mixed_ok Tryd.func65 (by kernel_rfl) rfl rfl (le_of_ble (by kernel_rfl)) (by kernel_rfl) ?_
    ((conv => whnf) <;> repeat (refine obl_ ?_; conv => whnf))
    refine cond_ (fun he => ?_) (fun he => ?_)
    · have he' : (s.la.getD (layerS m.ref s.la).toNat zLa).qty = m.qty := beq_iff_eq.1 he
      rw [takeS_1 he']
      ((conv => whnf) <;> repeat (refine obl_ ?_; conv => whnf))
      refine ⟨_, _, ?_, rfl, row_eq ?_, rfl⟩
      · decide
      · exact take_rm hy0 hy1 (by omega) _ _
    · have he' : ¬ (s.la.getD (layerS m.ref s.la).toNat zLa).qty = m.qty := fun e => by
        have : ((s.la.getD (layerS m.ref s.la).toNat zLa).qty == m.qty) = false := he
        rw [e] at this
        simp at this
      rw [takeS_2 he']
      ((conv => whnf) <;> repeat (refine obl_ ?_; conv => whnf))
      refine ⟨_, _, ?_, rfl, row_eq ?_, rfl⟩
      · decide
      · exact take_up hy2 _ _
  conv => whnf
  refine cond_ (fun h5 => ?_) (fun h5 => ?_)
  · have h5' := beq_iff_eq.1 h5
    conv => whnf
    refine InlP.intro (X' := ⟨tab, CR, 1000, 63⟩) cx_at mixed_ok Tryd.func53 (by kernel_rfl) rfl rfl (le_of_ble (by kernel_rfl)) (by kernel_rfl) ?_
    conv => whnf
    refine cond_ (fun hf => ?_) (fun hf => ?_)
    · have hf' : findS 1 m.ref s.pa < 0 := of_decide_eq_true hf
      rw [moveS_5a h5' hf']
      ((conv => whnf) <;> repeat (refine obl_ ?_; conv => whnf))
      (refine ⟨_, _, ?_, rfl, rfl, rfl⟩; decide)
    have hf' : ¬ findS 1 m.ref s.pa < 0 := of_decide_eq_false hf
    obtain ⟨hz0, hz1, hz2⟩ := find_lt hf'
    have hP := hs.pa _ (getD_mem zPa hz2)
    have hP1 := hP.2.2.1
    have hcost := hm.cost
    ((conv => whnf) <;> repeat (refine obl_ ?_; conv => whnf))
    refine cond_ (fun hl => ?_) (fun hl => ?_)
    · have hl' : layerS m.ref s.la < 0 := of_decide_eq_true hl
      rw [moveS_5c h5' hf' rfl (fun e => by cases e.1) hl']
      ((conv => whnf) <;> repeat (refine obl_ ?_; conv => whnf))
      (refine ⟨_, _, ?_, rfl, rfl, rfl⟩; decide)
    have hl' : ¬ layerS m.ref s.la < 0 := of_decide_eq_false hl
    obtain ⟨hy0, hy1, hy2⟩ := layer_lt hl'
    have hX := hs.la _ (getD_mem zLa hy2)
    have hX1 := hX.2.1
    have hX2 := hX.2.2
    rw [moveS_5 h5' hf' rfl (fun e => by cases e.1) hl' rfl]
    ((conv => whnf) <;> repeat (refine obl_ ?_; conv => whnf))
    (refine ⟨_, _, ?_, rfl, rfl, rfl⟩; decide)
  have ne : ∀ {n : Int}, (m.kind == n) = false → m.kind ≠ n := fun h e => by rw [e] at h; simp at h
  rw [moveS_0 (ne h1) (ne h2) (ne h3) (ne h4) (ne h5)]
  conv => whnf
  (refine ⟨_, _, ?_, rfl, rfl, rfl⟩; decide)
end Go.Proofs.YtclohjmakcfikaaDoor.Ff

/- accountingref34.move as a callee; accountingref34.Step. No condition but 64 bits. -/
namespace Go.Proofs.YtclohjmakcfikaaDoor.Ff
open Go.RowKit Go.Proofs.YtclohjmakcfikaaDoorW.PrintWords Go.Proofs.YtclohjmakcfikaaDoor.Ex
set_option linter.unusedVariables false
set_option linter.unusedSimpArgs false
set_option maxRecDepth 100000
theorem src_own {w : World} {p : Nat → Prop} {rk : RK} {v : Value} {xs : List rk.El} (h : OwnR w p rk v xs) : ∃ B m c, v = .slice B m c := own_slice h
theorem row_own {A : AS} {ρ ρ' : Env} (h : Agree A ρ ρ') {k : Nat} (hk : findR A.rw k ≠ none) {v : Value} (e : ρ.r k = v) {w : World} {p : Nat → Prop} {rk : RK} {xs : List rk.El} (hs : OwnR w p rk v xs) : (L.row k).rel ρ' v := ⟨by rw [h.2 k hk, e], own_slice hs⟩
theorem mvL_args (m : Mv) (ρ : Env) : (AV.agg (mvL m)).rel ρ (.agg (mvC m).toArray) := ⟨_, rfl, rfl, rfl, rfl, rfl, rfl, rfl, rfl, rfl, trivial⟩
def S2 (V1 V2 : Value) : Nat → Prop := fun b => V1.ownBlock = some b ∨ V2.ownBlock = some b
theorem rmove_calls {W : World} {LV PV : Value} {p1 p2 : Nat → Prop} (s : St) (m : Mv) (h1 : OwnR W p1 .la LV s.la) (h2 : OwnR W p2 .pa PV s.pa) (ha : Apart PV LV) (hs : StI s) (hm : MvI m) (n1 : s.la.length < 400000000) (n2 : s.pa.length < 1000000000) :
    Calls Tryd.prog 29 #[.agg #[.int .i64 s.q, .int .i64 s.v, .int .i64 s.pr, LV, PV], .agg (mvC m).toArray] W fun e w1 => ∃ V1 V2, e = .returned (.tuple #[.agg #[.int .i64 s.q, .int .i64 s.v, .int .i64 s.pr, V1, V2], .agg #[.int .i64 0, .int .i64 (moveS false s m).2.1.qty, .int .i64 (moveS false s m).2.1.value, .int .i64 (moveS false s m).2.1.var], .int .i64 (moveS false s m).1]) ∧
      OwnR w1 (fun b => S2 LV PV b ∨ W.heap.size ≤ b) .la V1 (moveS false s m).2.2.1 ∧ OwnR w1 (fun b => S2 LV PV b ∨ W.heap.size ≤ b) .pa V2 (moveS false s m).2.2.2 ∧ Apart V1 V2 ∧ Apart V2 V1 ∧ Chg W w1 (S2 LV PV) := by
  obtain ⟨ρ, e1, e2, hS⟩ := start2own (S := S2 LV PV) (h1.mono fun b hb _ => ⟨Nat.zero_le _, .inl (.inl hb)⟩) (h2.mono fun b hb _ => ⟨Nat.zero_le _, .inl (.inr hb)⟩) ha
  refine (calls_awp (f := 29) (vs := [.agg #[.int .i64 s.q, .int .i64 s.v, .int .i64 s.pr, LV, PV], .agg (mvC m).toArray]) (cx_ok cr_ok) mixed_ok Tryd.func29 rfl rfl hS (avs := [.agg [.v (.int .i64 s.q), .v (.int .i64 s.v), .v (.int .i64 s.pr), .row 0, .row 1], .agg (mvL m)])
    (fun ρ' h => ⟨⟨_, rfl, rfl, rfl, rfl, row_own h (by simp [findR]) e1 h1, row_own h (by simp [findR]) e2 h2, trivial⟩, mvL_args m ρ', trivial⟩) (le_of_ble (by kernel_rfl)) (K := fun v A1 => MoveK s.q s.v s.pr (moveS false s m) v A1) (rmove_awp s m hs hm n1 n2)).mono ?_
  rintro e w1 ⟨x, v, A1, ρ1, a1, rfl, hv, ⟨k1, k2, hne, rfl, f1, f2⟩, hS1, _⟩
  obtain ⟨us, eu, hu⟩ := hv
  match us, hu with
  | [u1, u2, u3], ⟨⟨vs1, c1, d1⟩, ⟨vs2, c2, d2⟩, c3, _⟩ =>
    match vs1, d1, vs2, d2 with
    | [a1, a2, a3, a4, a5], ⟨b1, b2, b3, b4, b5, _⟩, [a6, a7, a8, a9], ⟨b6, b7, b8, b9, _⟩ =>
      simp only [L.rel] at b1 b2 b3 b4 b5 b6 b7 b8 b9
      have c3' : u3 = _ := c3
      obtain ⟨b4, _⟩ := b4
      obtain ⟨b5, _⟩ := b5
      subst eu c1 c2 c3' b1 b2 b3 b4 b5 b6 b7 b8 b9
      refine ⟨_, _, rfl, (hS1.ownR f1).mono (fun b _ hb => hb.2), (hS1.ownR f2).mono (fun b _ hb => hb.2), hS1.apart f1 f2 rfl rfl hne, hS1.apart f2 f1 rfl rfl (Ne.symm hne), hS1.chg⟩
def rdOwn (rk : RK) (q : Nat) (K : List rk.El → M) : M := .rd (.r q) fun v => match v with
  | .row (some ⟨rk', xs, true⟩) => match RK.eq? rk' rk with
    | some ⟨e⟩ => K (e ▸ xs)
    | none => .fail
  | _ => .fail
theorem rdOwn_s {rk : RK} {q : Nat} {K : List rk.El → M} {A : AS} {r : AV × AS} (h : (rdOwn rk q K).go A = some r) (hb : (rdOwn rk q K).obl A) : ∃ xs, findR A.rw q = some (some ⟨rk, xs, true⟩) ∧ (K xs).go A = some r ∧ (K xs).obl A := by
  unfold rdOwn at h hb
  simp only [M.go] at h
  simp only [M.obl] at hb
  split at h
  · rename_i rk' xs hg
    simp only [hg] at hb
    split at h
    · rename_i e he
      simp only [he] at hb
      subst e
      exact ⟨xs, get_r hg, h, hb⟩
    · cases h
  · cases h
def moveM (s : St) (m : Mv) (r1 r2 d : Nat) (k : AV → M) : M := .ob (StI s ∧ MvI m ∧ s.la.length < 400000000 ∧ s.pa.length < 1000000000) (.wr (.r r1) (.row none) (.wr (.r r2) (.row none)
  (new2 d ⟨.la, (moveS false s m).2.2.1, true⟩ ⟨.pa, (moveS false s m).2.2.2, true⟩ (k (.tup [(true, [.v (.int .i64 s.q), .v (.int .i64 s.v), .v (.int .i64 s.pr), .row d, .row (d + 500)]), (true, [.v (.int .i64 0), .v (.int .i64 (moveS false s m).2.1.qty), .v (.int .i64 (moveS false s m).2.1.value), .v (.int .i64 (moveS false s m).2.1.var)]), (false, [.v (.int .i64 (moveS false s m).1)])])))))
def spMove : Sp := fun d args k => match args with
  | [.agg [.v (.int .i64 q), .v (.int .i64 v), .v (.int .i64 pr), .row r1, .row r2], .agg [.v (.int .i64 m1), .v (.int .i64 m2), .v (.string m3), .v (.int .i64 m4), .v (.int .i64 m5), .v (.int .i64 m6), .v (.string m7), .v (.int .i64 m8)]] =>
    match Nat.beq r1 r2 with
    | false => rdOwn .la r1 fun la => rdOwn .pa r2 fun pa => moveM ⟨q, v, pr, la, pa⟩ ⟨m1, m2, m3, m4, m5, m6, m7, m8⟩ r1 r2 d k
    | true => .fail
  | _ => .fail
theorem rmove_ok {g : G} {bs : Nat} : SpOk Tryd.prog g bs 29 spMove := sp_kill2 ⟨_, Tryd.func29, by decide +kernel, rfl⟩ (by
  intro d args k A r h hb
  unfold spMove at h hb
  split at h
  · rename_i q v pr r1 r2 m1 m2 m3 m4 m5 m6 m7 m8
    split at h
    · rename_i e5
      simp only [e5] at hb
      obtain ⟨la, f1, h1, hb1⟩ := rdOwn_s h hb
      obtain ⟨pa, f2, h2, hb2⟩ := rdOwn_s h1 hb1
      unfold moveM at h2 hb2
      simp only [M.go, AS.set] at h2
      simp only [M.obl, AS.set] at hb2
      refine ⟨_, r1, r2, _, _, _, _, _, _, f1, rfl, f2, rfl, Nat.ne_of_beq_eq_false e5, h2, hb2.2, fun ρ a0 w vs hR hv => ?_⟩
      have o1 := hR.rw r1 _ f1
      have o2 := hR.rw r2 _ f2
      unfold Row.rel at o1 o2
      rw [if_pos rfl] at o1 o2
      match vs, hv with
      | [v1, v2], ⟨⟨us, c1, hu⟩, ⟨ws, c2, hw⟩, _⟩ =>
        match us, hu, ws, hw with
        | [u1, u2, u3, u4, u5], ⟨b1, b2, b3, b4, b5, _⟩, [w1, w2, w3, w4, w5, w6, w7, w8], ⟨j1, j2, j3, j4, j5, j6, j7, j8, _⟩ =>
          simp only [L.rel] at b1 b2 b3 b4 b5 j1 j2 j3 j4 j5 j6 j7 j8
          obtain ⟨b4, _⟩ := b4
          obtain ⟨b5, _⟩ := b5
          subst c1 c2 b1 b2 b3 b4 b5 j1 j2 j3 j4 j5 j6 j7 j8
          refine (rmove_calls ⟨q, v, pr, la, pa⟩ ⟨m1, m2, m3, m4, m5, m6, m7, m8⟩ o1 o2 (fun b hb => hR.rr r2 _ r1 _ f2 f1 rfl rfl (Ne.symm (Nat.ne_of_beq_eq_false e5)) b hb) hb2.1.1 hb2.1.2.1 hb2.1.2.2.1 hb2.1.2.2.2).mono ?_
          rintro e w1 ⟨V1, V2, rfl, p1, p2, a1, a2, hc⟩
          exact ⟨_, V1, V2, rfl, fun ρ' r1 r2 => ⟨_, rfl, ⟨_, rfl, rfl, rfl, rfl, own_row p1 r1, own_row p2 r2, trivial⟩, ⟨_, rfl, rfl, rfl, rfl, rfl, trivial⟩, rfl, trivial⟩, p1, p2, a1, a2, hc⟩
    · cases h
  · cases h)
end Go.Proofs.YtclohjmakcfikaaDoor.Ff

/- accountingref34.Step. No condition but 64 bits. -/
namespace Go.Proofs.YtclohjmakcfikaaDoor.Ff
open Go.RowKit Go.Proofs.YtclohjmakcfikaaDoorW.PrintWords Go.Proofs.YtclohjmakcfikaaDoor.Ex
set_option linter.unusedVariables false
set_option linter.unusedSimpArgs false
set_option maxRecDepth 100000
theorem laid_of {W w : World} (h : Laid W) {S : Nat → Prop} (hS : ∀ i, ¬ S i) (hk : ∀ i, i < W.heap.size → ¬ S i → w.heap[i]? = W.heap[i]?) : Laid w := fun j hj => by
  have h1 := h j hj
  have hlt : 0 < W.heap.size := by
    unfold World.cell? at h1
    rcases Nat.lt_or_ge 0 W.heap.size with h | h
    · exact h
    · simp [Array.getElem?_eq_none h] at h1
  have h2 := hk 0 hlt (hS _)
  unfold World.cell? at h1 ⊢
  simpa [h2] using h1
def spOne : Sp := fun d args k => match args with
  | [.agg [.v (.int .i64 m1), .v (.int .i64 m2), .v (.string m3), .v (.int .i64 m4), .v (.int .i64 m5), .v (.int .i64 m6), .v (.string m7), .v (.int .i64 m8)]] => .ob (m3.size ≤ 140737488351232 ∧ m7.size ≤ 140737488351232) (k (.one (.v (.int .i64 (oneM ⟨m1, m2, m3, m4, m5, m6, m7, m8⟩)))))
  | _ => .fail
theorem one_ok' {g : G} {bs f : Nat} (hfn : FnOk Tryd.prog f) (hc : ∀ m : Mv, ∀ ρ A a w, Rel g ρ A a w → m.item.size ≤ 140737488351232 → m.lot.size ≤ 140737488351232 → Calls Tryd.prog f #[.agg (mvC m).toArray] w fun e w1 => e = .returned (.int .i64 (oneM m)) ∧ Below w.heap.size w w1) : SpOk Tryd.prog g bs f spOne := by
  refine ⟨hfn, fun d hd args k A r h hb => ?_⟩
  unfold spOne at h hb
  split at h
  · rename_i m1 m2 m3 m4 m5 m6 m7 m8
    simp only [M.go] at h
    simp only [M.obl] at hb
    refine ⟨_, A, h, hb.2, fun ρ a0 w vs hS hv => ?_⟩
    match vs, hv ρ (Agree.refl _ _) with
    | [v1], ⟨⟨us, c1, hu⟩, _⟩ =>
      match us, hu with
      | [w1, w2, w3, w4, w5, w6, w7, w8], ⟨j1, j2, j3, j4, j5, j6, j7, j8, _⟩ =>
        simp only [L.rel] at j1 j2 j3 j4 j5 j6 j7 j8
        subst c1 j1 j2 j3 j4 j5 j6 j7 j8
        refine (hc ⟨m1, m2, m3, m4, m5, m6, m7, m8⟩ ρ A a0 w hS.rel hb.1.1 hb.1.2).mono ?_
        rintro e w1 ⟨rfl, hbel⟩
        exact ⟨_, ρ, rfl, fun ρ' _ => rfl, hS.below hbel, Pin.refl _ _⟩
  · cases h
theorem one_ok {g : G} {bs : Nat} (hL : Laid g.W0) (hS : ∀ i, ¬ g.S i) : SpOk Tryd.prog g bs 18 spOne := one_ok' ⟨_, Tryd.func18, by decide +kernel, rfl⟩ (fun m ρ A a w hR _ _ => Co.one_calls m.seq m.day m.item m.kind m.qty m.cost m.lot m.ref w (laid_of hL hS hR.kept.2))
theorem rone_ok {g : G} {bs : Nat} : SpOk Tryd.prog g bs 27 spOne := one_ok' ⟨_, Tryd.func27, by decide +kernel, rfl⟩ (fun m ρ A a w hR h1 h2 => Co.rone_calls m.seq m.day m.item m.kind m.qty m.cost m.lot m.ref w h1 h2)
/-! ### a step, case by case -/
section
variable {kn : List Pa → Int → Bool} {lc : Bool} {s : St} {m : Mv}
def zSt : St := ⟨0, 0, 0, [], []⟩
theorem stepS_1 (h : oneM m ≠ 0) : stepS kn lc s m = (oneM m, zSt, zC 0) := by
  unfold stepS; simp only; rw [if_pos h]; rfl
theorem stepS_2 (h : ¬ oneM m ≠ 0) (h2 : kn s.pa m.seq = true) : stepS kn lc s m = (8, zSt, zC 0) := by
  unfold stepS; simp only; rw [if_neg h, if_pos h2]; rfl
theorem stepS_3 (h : ¬ oneM m ≠ 0) (h2 : ¬ kn s.pa m.seq = true) (h3 : (moveS lc s m).1 ≠ 0) : stepS kn lc s m = ((moveS lc s m).1, zSt, zC 0) := by
  unfold stepS; simp only; rw [if_neg h, if_neg h2, if_pos h3]; rfl
theorem stepS_4 (h : ¬ oneM m ≠ 0) (h2 : ¬ kn s.pa m.seq = true) (h3 : ¬ (moveS lc s m).1 ≠ 0) (h4 : overS (wr (s.q + (moveS lc s m).2.1.qty)) (wr (s.v + (moveS lc s m).2.1.value)) (moveS lc s m).2.1.var (moveS lc s m).2.2.1 = true) : stepS kn lc s m = (4, zSt, zC 0) := by
  unfold stepS; simp only; rw [if_neg h, if_neg h2, if_neg h3, if_pos h4]; rfl
theorem stepS_5 (h : ¬ oneM m ≠ 0) (h2 : ¬ kn s.pa m.seq = true) (h3 : ¬ (moveS lc s m).1 ≠ 0) (h4 : ¬ overS (wr (s.q + (moveS lc s m).2.1.qty)) (wr (s.v + (moveS lc s m).2.1.value)) (moveS lc s m).2.1.var (moveS lc s m).2.2.1 = true) : stepS kn lc s m = (0, ⟨wr (s.q + (moveS lc s m).2.1.qty), wr (s.v + (moveS lc s m).2.1.value), s.pr, (moveS lc s m).2.2.1, (moveS lc s m).2.2.2⟩, (moveS lc s m).2.1) := by
  unfold stepS; simp only; rw [if_neg h, if_neg h2, if_neg h3, if_neg h4]
theorem moveS_seq : (moveS lc s m).2.1.seq = m.seq := by
  unfold moveS
  simp only
  repeat' split
  all_goals rfl
end
def StepK (r : Int × St × Co) (x : AV) (A : AS) : Prop := (r.1 ≠ 0 ∧ x = .tup [(true, [.v (.int .i64 0), .v (.int .i64 0), .v (.int .i64 0), .v (.slice none 0 0), .v (.slice none 0 0)]), (true, [.v (.int .i64 0), .v (.int .i64 0), .v (.int .i64 0), .v (.int .i64 0)]), (false, [.v (.int .i64 r.1)])]) ∨
  (r.1 = 0 ∧ ∃ k1 k2, k1 ≠ k2 ∧ x = .tup [(true, [.v (.int .i64 r.2.1.q), .v (.int .i64 r.2.1.v), .v (.int .i64 r.2.1.pr), .row k1, .row k2]), (true, [.v (.int .i64 r.2.2.seq), .v (.int .i64 r.2.2.qty), .v (.int .i64 r.2.2.value), .v (.int .i64 r.2.2.var)]), (false, [.v (.int .i64 0)])] ∧ findR A.rw k1 = some (some ⟨.la, r.2.1.la, true⟩) ∧ findR A.rw k2 = some (some ⟨.pa, r.2.1.pa, true⟩))
def StepW (W w1 : World) (r : Int × St × Co) (e : Ending) : Prop := ∃ V1 V2, e = .returned (.tuple #[.agg #[.int .i64 r.2.1.q, .int .i64 r.2.1.v, .int .i64 r.2.1.pr, V1, V2], .agg (coC r.2.2).toArray, .int .i64 r.1]) ∧ OwnR w1 (fun b => W.heap.size ≤ b) .la V1 r.2.1.la ∧ OwnR w1 (fun b => W.heap.size ≤ b) .pa V2 r.2.1.pa ∧ Apart V1 V2 ∧ Apart V2 V1 ∧ Below W.heap.size W w1 ∧ (r.1 ≠ 0 → V1 = .slice none 0 0 ∧ V2 = .slice none 0 0)
theorem stepW {W w1 : World} {ρ1 : Env} {A1 : AS} {a1 : Act} {x : Value} {v : AV} {r : Int × St × Co} (hS : Sat (gW W) ρ1 A1 a1 w1) (hv : v.rel ρ1 x) (hk : StepK r v A1) (hz : r.1 ≠ 0 → r.2.1 = zSt ∧ r.2.2 = zC 0) : StepW W w1 r (.returned x) := by
  rcases hk with ⟨h0, rfl⟩ | ⟨h0, k1, k2, hne, rfl, f1, f2⟩
  · obtain ⟨us, eu, hu⟩ := hv
    obtain ⟨z1, z2⟩ := hz h0
    match us, hu with
    | [u1, u2, u3], ⟨⟨vs1, c1, d1⟩, ⟨vs2, c2, d2⟩, c3, _⟩ =>
      match vs1, d1, vs2, d2 with
      | [a1, a2, a3, a4, a5], ⟨b1, b2, b3, b4, b5, _⟩, [a6, a7, a8, a9], ⟨b6, b7, b8, b9, _⟩ =>
        simp only [L.rel] at b1 b2 b3 b4 b5 b6 b7 b8 b9
        have c3' : u3 = _ := c3
        subst eu c1 c2 c3' b1 b2 b3 b4 b5 b6 b7 b8 b9
        refine ⟨.slice none 0 0, .slice none 0 0, by rw [z1, z2]; rfl, ?_, ?_, (fun b hb => (by cases hb)), (fun b hb => (by cases hb)), hS.rel.bel, fun _ => ⟨rfl, rfl⟩⟩
        · rw [z1]; exact ⟨rfl, .inl ⟨rfl, rfl⟩⟩
        · rw [z1]; exact ⟨rfl, .inl ⟨rfl, rfl⟩⟩
  · obtain ⟨us, eu, hu⟩ := hv
    match us, hu with
    | [u1, u2, u3], ⟨⟨vs1, c1, d1⟩, ⟨vs2, c2, d2⟩, c3, _⟩ =>
      match vs1, d1, vs2, d2 with
      | [a1, a2, a3, a4, a5], ⟨b1, b2, b3, b4, b5, _⟩, [a6, a7, a8, a9], ⟨b6, b7, b8, b9, _⟩ =>
        simp only [L.rel] at b1 b2 b3 b4 b5 b6 b7 b8 b9
        have c3' : u3 = _ := c3
        obtain ⟨b4, _⟩ := b4
        obtain ⟨b5, _⟩ := b5
        subst eu c1 c2 c3' b1 b2 b3 b4 b5 b6 b7 b8 b9
        refine ⟨_, _, by rw [h0]; rfl, (hS.ownR f1).mono (fun b _ hb => gW_mine hb), (hS.ownR f2).mono (fun b _ hb => gW_mine hb), hS.apart f1 f2 rfl rfl hne, hS.apart f2 f1 rfl rfl (Ne.symm hne), hS.rel.bel, fun h => absurd h0 h⟩
theorem stepS_z {kn : List Pa → Int → Bool} {lc : Bool} {s : St} {m : Mv} (h : (stepS kn lc s m).1 ≠ 0) : (stepS kn lc s m).2.1 = zSt ∧ (stepS kn lc s m).2.2 = zC 0 := by
  by_cases h1 : oneM m ≠ 0
  · rw [stepS_1 h1]; exact ⟨rfl, rfl⟩
  by_cases h2 : kn s.pa m.seq = true
  · rw [stepS_2 h1 h2]; exact ⟨rfl, rfl⟩
  by_cases h3 : (moveS lc s m).1 ≠ 0
  · rw [stepS_3 h1 h2 h3]; exact ⟨rfl, rfl⟩
  by_cases h4 : overS (wr (s.q + (moveS lc s m).2.1.qty)) (wr (s.v + (moveS lc s m).2.1.value)) (moveS lc s m).2.1.var (moveS lc s m).2.2.1 = true
  · rw [stepS_4 h1 h2 h3 h4]; exact ⟨rfl, rfl⟩
  · rw [stepS_5 h1 h2 h3 h4] at h; exact absurd rfl h
def CS : List (Nat × Sp) := [(49, spFind), (30, spFits), (16, spClone), (29, spMove), (27, spOne)]
theorem cs_ok {g : G} {n : Nat} : ∀ f sp, lookC CS f = some sp → SpOk Tryd.prog g n f sp := spc_cons find_ok (spc_cons fits_ok (spc_cons Clone_ok (spc_cons rmove_ok (spc_cons rone_ok spc_nil))))
theorem cs_at {g : G} {b nt : Nat} : CxOk Tryd.prog g ⟨tab, CS, b, nt⟩ := ⟨tab_ok, elt_ok, cs_ok⟩
theorem rstep_calls {W : World} {LV PV : Value} (s : St) (m : Mv) (h1 : Src W LV .la s.la) (h2 : Src W PV .pa s.pa) (hs : StI s) (hm : MvI m) (n1 : s.la.length < 400000000) (n2 : s.pa.length < 1000000000) (z1 : m.item.size ≤ 140737488351232) (z2 : m.lot.size ≤ 140737488351232) :
    Calls Tryd.prog 11 #[.agg #[.int .i64 s.q, .int .i64 s.v, .int .i64 s.pr, LV, PV], .agg (mvC m).toArray] W fun e w1 => StepW W w1 (stepS knR false s m) e := by
  obtain ⟨ρ, e1, e2, hS⟩ := start2 h1 h2
  refine (calls_awp (f := 11) (vs := [.agg #[.int .i64 s.q, .int .i64 s.v, .int .i64 s.pr, LV, PV], .agg (mvC m).toArray]) (cx_ok cs_ok) mixed_ok Tryd.func11 rfl rfl hS (avs := [.agg [.v (.int .i64 s.q), .v (.int .i64 s.v), .v (.int .i64 s.pr), .row 0, .row 1], .agg (mvL m)])
    (fun ρ' h => ⟨⟨_, rfl, rfl, rfl, rfl, row_rel h (by simp [findR]) e1 h1, row_rel h (by simp [findR]) e2 h2, trivial⟩, mvL_args m ρ', trivial⟩) (le_of_ble (by kernel_rfl)) (K := fun v A1 => StepK (stepS knR false s m) v A1) ?_).mono ?_
  · unfold mvL
    ((conv => whnf) <;> repeat (refine obl_ ?_; conv => whnf))
    refine cond_ (fun ho => ?_) (fun ho => ?_)
    · have ho' : oneM m ≠ 0 := bne_iff_ne.1 ho
      rw [stepS_1 ho']
      ((conv => whnf) <;> repeat (refine obl_ ?_; conv => whnf))
      exact .inl ⟨ho', rfl⟩
    have ho' : ¬ oneM m ≠ 0 := fun e => by
      have : (oneM m != 0) = false := ho
      simp at this
      exact e this
    ((conv => whnf) <;> repeat (refine obl_ ?_; conv => whnf))
    refine InlP.intro (X' := ⟨tab, CS, 1000, 15⟩) cs_at mixed_ok Tryd.func28 (by kernel_rfl) rfl rfl (le_of_ble (by kernel_rfl)) (by kernel_rfl) ?_
    ((conv => whnf) <;> repeat (refine obl_ ?_; conv => whnf))
    refine cond_ (fun hk => ?_) (fun hk => ?_)
    · have hk' : decide (0 ≤ findS 1 m.seq s.pa) = true := hk
      rw [stepS_2 ho' (by unfold knR; rw [hk', Bool.true_or])]
      ((conv => whnf) <;> repeat (refine obl_ ?_; conv => whnf))
      exact .inl ⟨by decide, rfl⟩
    have hk' : decide (0 ≤ findS 1 m.seq s.pa) = false := hk
    ((conv => whnf) <;> repeat (refine obl_ ?_; conv => whnf))
    refine cond_ (fun hk2 => ?_) (fun hk2 => ?_)
    · have hk2' : decide (0 ≤ findS 2 m.seq s.pa) = true := hk2
      rw [stepS_2 ho' (by unfold knR; rw [hk2', Bool.or_true])]
      ((conv => whnf) <;> repeat (refine obl_ ?_; conv => whnf))
      exact .inl ⟨by decide, rfl⟩
    have hk2' : decide (0 ≤ findS 2 m.seq s.pa) = false := hk2
    have hkn : ¬ knR s.pa m.seq = true := by unfold knR; rw [hk', hk2']; decide
    ((conv => whnf) <;> repeat (refine obl_ ?_; conv => whnf))
    refine cond_ (fun he => ?_) (fun he => ?_)
    · have he' : (moveS false s m).1 ≠ 0 := bne_iff_ne.1 he
      rw [stepS_3 ho' hkn he']
      ((conv => whnf) <;> repeat (refine obl_ ?_; conv => whnf))
      exact .inl ⟨he', rfl⟩
    have he' : ¬ (moveS false s m).1 ≠ 0 := fun e => by
      have : ((moveS false s m).1 != 0) = false := he
      simp at this
      exact e this
    ((conv => whnf) <;> repeat (refine obl_ ?_; conv => whnf))
    refine cond_ (fun hv => ?_) (fun hv => ?_)
    · have hv' : overS (wr (s.q + (moveS false s m).2.1.qty)) (wr (s.v + (moveS false s m).2.1.value)) (moveS false s m).2.1.var (moveS false s m).2.2.1 = true := by
        have : (!(!overS (wr (s.q + (moveS false s m).2.1.qty)) (wr (s.v + (moveS false s m).2.1.value)) (moveS false s m).2.1.var (moveS false s m).2.2.1)) = true := hv
        simpa using this
      rw [stepS_4 ho' hkn he' hv']
      ((conv => whnf) <;> repeat (refine obl_ ?_; conv => whnf))
      exact .inl ⟨by decide, rfl⟩
    have hv' : ¬ overS (wr (s.q + (moveS false s m).2.1.qty)) (wr (s.v + (moveS false s m).2.1.value)) (moveS false s m).2.1.var (moveS false s m).2.2.1 = true := by
      have : (!(!overS (wr (s.q + (moveS false s m).2.1.qty)) (wr (s.v + (moveS false s m).2.1.value)) (moveS false s m).2.1.var (moveS false s m).2.2.1)) = false := hv
      simpa using this
    rw [stepS_5 ho' hkn he' hv']
    ((conv => whnf) <;> repeat (refine obl_ ?_; conv => whnf))
    rw [moveS_seq]
    refine .inr ⟨rfl, _, _, ?_, rfl, rfl, rfl⟩
    decide
  · rintro e w1 ⟨x, v, A1, ρ1, a1, rfl, hv, hk, hS1, _⟩
    exact stepW hS1 hv hk stepS_z
end Go.Proofs.YtclohjmakcfikaaDoor.Ff

/- fifo: past, referred, layer, called on a step as it begins. No condition. -/
namespace Go.Proofs.YtclohjmakcfikaaDoor.Ff
open Go.RowKit Go.Proofs.YtclohjmakcfikaaDoorW.PrintWords Go.Proofs.YtclohjmakcfikaaDoor.Ex
set_option linter.unusedVariables false
set_option linter.unusedSimpArgs false
set_option maxRecDepth 100000
def CF : List (Nat × Sp) := [(17, spClone), (18, spOne), (41, spPart), (43, spFar)]
theorem cf_ok {g : G} {n : Nat} (hL : Laid g.W0) (hS : ∀ i, ¬ g.S i) : ∀ f sp, lookC CF f = some sp → SpOk Tryd.prog g n f sp := spc_cons cloned_ok (spc_cons (one_ok hL hS) (spc_cons part_ok (spc_cons far_ok spc_nil)))
theorem cf_at {g : G} {b nt : Nat} (hL : Laid g.W0) (hS : ∀ i, ¬ g.S i) : CxOk Tryd.prog g ⟨tab, CF, b, nt⟩ := ⟨tab_ok, elt_ok, cf_ok hL hS⟩
/-- The blocks and the rows of a step as it begins. -/
def BLs (s : St) (m : Mv) : List (Nat × TypeId × List L) := [(28, 52, [.v (.int .i64 s.q), .v (.int .i64 s.v), .v (.int .i64 s.pr), .row 22, .row 522, .v (.int .i64 m.seq), .v (.int .i64 m.day), .v (.string m.item), .v (.int .i64 m.kind), .v (.int .i64 m.qty), .v (.int .i64 m.cost), .v (.string m.lot), .v (.int .i64 m.ref), .v (.int .i64 m.seq), .v (.int .i64 0), .v (.int .i64 0), .v (.int .i64 0)]),
  (15, 28, [.v (.int .i64 0), .v (.int .i64 0), .v (.int .i64 0), .v (.int .i64 0)]), (14, 26, [.v (.int .i64 0), .v (.int .i64 0), .v (.int .i64 0), .v (.slice none 0 0), .v (.slice none 0 0)]), (13, 33, mvL m), (12, 26, [.v (.int .i64 s.q), .v (.int .i64 s.v), .v (.int .i64 s.pr), .row 0, .row 1])]
def RWs (s : St) : List (Nat × Option Row) := [(0, some ⟨.la, s.la, false⟩), (1, some ⟨.pa, s.pa, false⟩), (22, some ⟨.la, s.la, true⟩), (522, some ⟨.pa, s.pa, true⟩)]
def pastP (kind seq : Int) (p : Pa) : Bool := p.seq == seq && (kind == 0 || p.kind == kind)
def pastS (kind seq : Int) (ps : List Pa) : Int := fi (pastP kind seq) ps 0
section
variable {g : G}
theorem past_inl (hL : Laid g.W0) (hS : ∀ i, ¬ g.S i) {X : Cx} {t : Nat} {tm : List (Nat × AV)} {s : St} {m : Mv} {kind seq : Int} {K : AS → Prop} (hlen : s.pa.length < 1000000000) (hc : inChk X ⟨tab, CF, 5000, 45⟩ (some t) ⟨tm, BLs s m, RWs s⟩ = true)
    (h0 : pastS kind seq s.pa < 0 → K ⟨(t, .one (.v (.pointer none))) :: tm, BLs s m, RWs s⟩) (h1 : 0 ≤ pastS kind seq s.pa → pastS kind seq s.pa < s.pa.length → pastP kind seq (s.pa.getD (pastS kind seq s.pa).toNat zPa) = true → K ⟨(t, .one (.elt 522 7 (pastS kind seq s.pa).toNat 0)) :: tm, BLs s m, RWs s⟩) :
    InlP Tryd.prog g X (some t) 19 [.one (.ptr 28 0), .one (.v (.int .i64 kind)), .one (.v (.int .i64 seq))] ⟨tm, BLs s m, RWs s⟩ K := by
  refine InlP.intro (X' := ⟨tab, CF, 5000, 45⟩) (cf_at hL hS) mixed_ok Tryd.func19 (by kernel_rfl) rfl rfl (le_of_ble (by kernel_rfl)) hc ?_
  conv => whnf
  refine LoopP.introR (cf_at hL hS) mixed_ok (ι := Nat) (fun k => ⟨[(15, .one (.v (.int .i64 (k : Int)))), (14, .one (.v (.int .i64 (s.pa.length : Int)))), (2, .one (.v (.int .i64 seq))), (1, .one (.v (.int .i64 kind))), (0, .one (.ptr 28 0))], BLs s m, RWs s⟩) (fun k => k ≤ s.pa.length ∧ pastS kind seq s.pa = fi (pastP kind seq) (s.pa.drop k) k) (fun k => s.pa.length - k) 0 ?_ ?_ ?_
  · exact ⟨Nat.zero_le _, by simp [pastS]⟩
  · refine ⟨[], ?_⟩
    (refine ⟨?_, ?_, ?_, by kernel_rfl⟩ <;> repeat' (first | exact trivial | exact rfl | assumption | apply And.intro))
  · rintro k ⟨hk, hfi⟩
    conv => whnf
    refine cond_ (fun h => ?_) (fun h => ?_)
    · have hlt : k < s.pa.length := by have := of_decide_eq_true h; omega
      have yes : pastP kind seq (s.pa.getD k zPa) = true → K ⟨(t, .one (.elt 522 7 k 0)) :: tm, BLs s m, RWs s⟩ := fun hp => by
        have e : pastS kind seq s.pa = (k : Int) := hfi.trans (fi_yes zPa hlt hp _)
        have := h1 (by omega) (by omega) (by rw [e]; exact hp)
        rw [e] at this
        exact this
      have no : pastP kind seq (s.pa.getD k zPa) = false → k + 1 ≤ s.pa.length ∧ pastS kind seq s.pa = fi (pastP kind seq) (s.pa.drop (k + 1)) ((k + 1 : Nat) : Int) := fun hp => ⟨hlt, by rw [hfi, fi_no zPa hlt hp]; simp⟩
      have i1 : 0 ≤ (k : Int) := by omega
      have i2 : (k : Int) < (s.pa.length : Int) := by omega
      ((conv => whnf) <;> repeat (refine obl_ ?_; conv => whnf))
      refine cond_ (fun ha => ?_) (fun ha => ?_)
      · have ha' : ((s.pa.getD k zPa).seq == seq) = true := ha
        ((conv => whnf) <;> repeat (refine obl_ ?_; conv => whnf))
        refine cond_ (fun hb => ?_) (fun hb => ?_)
        · ((conv => whnf) <;> repeat (refine obl_ ?_; conv => whnf))
          exact yes (by unfold pastP; rw [ha', hb]; rfl)
        · ((conv => whnf) <;> repeat (refine obl_ ?_; conv => whnf))
          refine cond_ (fun hd => ?_) (fun hd => ?_)
          · have hd' : ((s.pa.getD k zPa).kind == kind) = true := hd
            ((conv => whnf) <;> repeat (refine obl_ ?_; conv => whnf))
            exact yes (by unfold pastP; rw [ha', hb, hd']; rfl)
          · have hd' : ((s.pa.getD k zPa).kind == kind) = false := hd
            ((conv => whnf) <;> repeat (refine obl_ ?_; conv => whnf))
            refine ⟨k + 1, no (by unfold pastP; rw [ha', hb, hd']; rfl), by omega, [], ?_⟩
            (refine ⟨?_, ?_, ?_, by kernel_rfl⟩ <;> repeat' (first | exact trivial | exact rfl | assumption | apply And.intro))
            exact up_ (by omega)
      · have ha' : ((s.pa.getD k zPa).seq == seq) = false := ha
        ((conv => whnf) <;> repeat (refine obl_ ?_; conv => whnf))
        refine ⟨k + 1, no (by unfold pastP; rw [ha']; rfl), by omega, [], ?_⟩
        (refine ⟨?_, ?_, ?_, by kernel_rfl⟩ <;> repeat' (first | exact trivial | exact rfl | assumption | apply And.intro))
        exact up_ (by omega)
    · have := of_decide_eq_false h
      ((conv => whnf) <;> repeat (refine obl_ ?_; conv => whnf))
      exact h0 (by rw [hfi, fi_end (by omega)]; decide)
theorem referred_inl (hL : Laid g.W0) (hS : ∀ i, ¬ g.S i) {X : Cx} {t : Nat} {tm : List (Nat × AV)} {s : St} {m : Mv} {kind : Int} {K : AS → Prop} (hlen : s.pa.length < 1000000000) (hc : inChk X ⟨tab, CF, 4000, 35⟩ (some t) ⟨tm, BLs s m, RWs s⟩ = true)
    (h0 : pastS kind m.ref s.pa < 0 → K ⟨(t, .tup [(false, [.v (.pointer none)]), (false, [.v (.int .i64 28)])]) :: tm, BLs s m, RWs s⟩)
    (h1 : 0 ≤ pastS kind m.ref s.pa → pastS kind m.ref s.pa < s.pa.length → wr ((s.pa.getD (pastS kind m.ref s.pa).toNat zPa).qty - (s.pa.getD (pastS kind m.ref s.pa).toNat zPa).used) < m.qty → K ⟨(t, .tup [(false, [.v (.pointer none)]), (false, [.v (.int .i64 21)])]) :: tm, BLs s m, RWs s⟩)
    (h2 : 0 ≤ pastS kind m.ref s.pa → pastS kind m.ref s.pa < s.pa.length → ¬ wr ((s.pa.getD (pastS kind m.ref s.pa).toNat zPa).qty - (s.pa.getD (pastS kind m.ref s.pa).toNat zPa).used) < m.qty → K ⟨(t, .tup [(false, [.elt 522 7 (pastS kind m.ref s.pa).toNat 0]), (false, [.v (.int .i64 0)])]) :: tm, BLs s m, RWs s⟩) :
    InlP Tryd.prog g X (some t) 40 [.one (.ptr 28 0), .one (.v (.int .i64 kind))] ⟨tm, BLs s m, RWs s⟩ K := by
  refine InlP.intro (X' := ⟨tab, CF, 4000, 35⟩) (cf_at hL hS) mixed_ok Tryd.func40 (by kernel_rfl) rfl rfl (le_of_ble (by kernel_rfl)) hc ?_
  conv => whnf
  refine past_inl hL hS hlen (by kernel_rfl) (fun hz => ?_) (fun z0 z1 _ => ?_)
  · ((conv => whnf) <;> repeat (refine obl_ ?_; conv => whnf))
    exact h0 hz
  · have z2 : (pastS kind m.ref s.pa).toNat < s.pa.length := by omega
    ((conv => whnf) <;> repeat (refine obl_ ?_; conv => whnf))
    refine cond_ (fun hq => ?_) (fun hq => ?_)
    · ((conv => whnf) <;> repeat (refine obl_ ?_; conv => whnf))
      exact h1 z0 z1 (of_decide_eq_true hq)
    · ((conv => whnf) <;> repeat (refine obl_ ?_; conv => whnf))
      exact h2 z0 z1 (of_decide_eq_false hq)
theorem layer_inl (hL : Laid g.W0) (hS : ∀ i, ¬ g.S i) {X : Cx} {t : Nat} {tm : List (Nat × AV)} {s : St} {m : Mv} {seq : Int} {K : AS → Prop} (hlen : s.la.length < 1000000000) (hc : inChk X ⟨tab, CF, 5000, 24⟩ (some t) ⟨tm, BLs s m, RWs s⟩ = true)
    (h0 : layerS seq s.la < 0 → K ⟨(t, .one (.v (.int .i64 (-1)))) :: tm, BLs s m, RWs s⟩)
    (h1 : 0 ≤ layerS seq s.la → layerS seq s.la < s.la.length → K ⟨(t, .one (.v (.int .i64 (layerS seq s.la)))) :: tm, (5006, 40, [.v (.int .i64 (s.la.getD (layerS seq s.la).toNat zLa).seq), .v (.string (s.la.getD (layerS seq s.la).toNat zLa).lot), .v (.int .i64 (s.la.getD (layerS seq s.la).toNat zLa).qty), .v (.int .i64 (s.la.getD (layerS seq s.la).toNat zLa).value)]) :: BLs s m, RWs s⟩) :
    InlP Tryd.prog g X (some t) 42 [.one (.ptr 28 0), .one (.v (.int .i64 seq))] ⟨tm, BLs s m, RWs s⟩ K := by
  refine InlP.intro (X' := ⟨tab, CF, 5000, 24⟩) (cf_at hL hS) mixed_ok Tryd.func42 (by kernel_rfl) rfl rfl (le_of_ble (by kernel_rfl)) hc ?_
  conv => whnf
  refine LoopP.introR (cf_at hL hS) mixed_ok (ι := Nat) (fun k => ⟨[(13, .one (.v (.int .i64 (k : Int)))), (12, .one (.v (.int .i64 (s.la.length : Int)))), (11, .one (.row 22)), (1, .one (.v (.int .i64 seq))), (0, .one (.ptr 28 0))], BLs s m, RWs s⟩) (fun k => k ≤ s.la.length ∧ layerS seq s.la = fi (fun l => l.seq == seq) (s.la.drop k) k) (fun k => s.la.length - k) 0 ?_ ?_ ?_
  · exact ⟨Nat.zero_le _, by simp [layerS]⟩
  · refine ⟨[], ?_⟩
    (refine ⟨?_, ?_, ?_, by kernel_rfl⟩ <;> repeat' (first | exact trivial | exact rfl | assumption | apply And.intro))
  · rintro k ⟨hk, hfi⟩
    conv => whnf
    refine cond_ (fun h => ?_) (fun h => ?_)
    · have hlt : k < s.la.length := by have := of_decide_eq_true h; omega
      have i1 : 0 ≤ (k : Int) := by omega
      have i2 : (k : Int) < (s.la.length : Int) := by omega
      ((conv => whnf) <;> repeat (refine obl_ ?_; conv => whnf))
      refine cond_ (fun ha => ?_) (fun ha => ?_)
      · have ha' : ((s.la.getD k zLa).seq == seq) = true := ha
        have e : layerS seq s.la = (k : Int) := hfi.trans (fi_yes zLa hlt ha' _)
        have hh := h1 (by omega) (by omega)
        rw [e] at hh
        ((conv => whnf) <;> repeat (refine obl_ ?_; conv => whnf))
        exact hh
      · have ha' : ((s.la.getD k zLa).seq == seq) = false := ha
        ((conv => whnf) <;> repeat (refine obl_ ?_; conv => whnf))
        refine ⟨k + 1, ⟨hlt, by rw [hfi, fi_no zLa hlt ha']; simp⟩, by omega, [], ?_⟩
        (refine ⟨?_, ?_, ?_, by kernel_rfl⟩ <;> repeat' (first | exact trivial | exact rfl | assumption | apply And.intro))
        exact up_ (by omega)
    · have := of_decide_eq_false h
      ((conv => whnf) <;> repeat (refine obl_ ?_; conv => whnf))
      exact h0 (by rw [hfi, fi_end (by omega)]; decide)
theorem pastS_find {kind seq : Int} (h : kind ≠ 0) (ps : List Pa) : pastS kind seq ps = findS kind seq ps := by
  unfold pastS findS
  congr 1
  funext p
  unfold pastP
  have : (kind == 0) = false := by simpa using h
  rw [this, Bool.false_or, Bool.and_comm]
theorem pastS_kn (seq : Int) (ps : List Pa) : pastS 0 seq ps = fi (fun p => p.seq == seq) ps 0 := by
  unfold pastS
  congr 1
  funext p
  unfold pastP
  simp
end
end Go.Proofs.YtclohjmakcfikaaDoor.Ff

/- fifo.Step. No condition but 64 bits. -/
namespace Go.Proofs.YtclohjmakcfikaaDoor.Ff
open Go.RowKit Go.Proofs.YtclohjmakcfikaaDoorW.PrintWords Go.Proofs.YtclohjmakcfikaaDoor.Ex
set_option linter.unusedVariables false
set_option linter.unusedSimpArgs false
set_option maxRecDepth 100000
def app2 {α : Type} : List α → List α → List α
  | [], r => r
  | a :: s, r => a :: app2 s r
/-- Behind the movement. -/
def IT (s : St) (m : Mv) (r : Int × Co × List La × List Pa) : AS := ⟨[(56, .one (.v (.int .i64 r.1))), (7, .one (.ptr 28 0)), (5, .one (.ptr 15 0)), (4, .one (.ptr 14 0))], [(28, 52, [.v (.int .i64 s.q), .v (.int .i64 s.v), .v (.int .i64 s.pr), .row 6000, .row 6001, .v (.int .i64 m.seq), .v (.int .i64 m.day), .v (.string m.item), .v (.int .i64 m.kind), .v (.int .i64 m.qty), .v (.int .i64 m.cost), .v (.string m.lot), .v (.int .i64 m.ref), .v (.int .i64 m.seq), .v (.int .i64 r.2.1.qty), .v (.int .i64 r.2.1.value), .v (.int .i64 r.2.1.var)]),
  (15, 28, [.v (.int .i64 0), .v (.int .i64 0), .v (.int .i64 0), .v (.int .i64 0)]), (14, 26, [.v (.int .i64 0), .v (.int .i64 0), .v (.int .i64 0), .v (.slice none 0 0), .v (.slice none 0 0)])], [(6000, some ⟨.la, r.2.2.1, true⟩), (6001, some ⟨.pa, r.2.2.2, true⟩)]⟩
def BLt (s : St) (m : Mv) (r : Int × Co × List La × List Pa) : List (Nat × TypeId × List L) := [(28, 52, [.v (.int .i64 (wr (s.q + r.2.1.qty))), .v (.int .i64 (wr (s.v + r.2.1.value))), .v (.int .i64 s.pr), .row 6000, .row 6001, .v (.int .i64 m.seq), .v (.int .i64 m.day), .v (.string m.item), .v (.int .i64 m.kind), .v (.int .i64 m.qty), .v (.int .i64 m.cost), .v (.string m.lot), .v (.int .i64 m.ref), .v (.int .i64 m.seq), .v (.int .i64 r.2.1.qty), .v (.int .i64 r.2.1.value), .v (.int .i64 r.2.1.var)]),
  (15, 28, [.v (.int .i64 0), .v (.int .i64 0), .v (.int .i64 0), .v (.int .i64 0)]), (14, 26, [.v (.int .i64 0), .v (.int .i64 0), .v (.int .i64 0), .v (.slice none 0 0), .v (.slice none 0 0)])]
theorem over_inl {g : G} (hL : Laid g.W0) (hS : ∀ i, ¬ g.S i) {X : Cx} {t : Nat} {tm : List (Nat × AV)} {s : St} {m : Mv} {r : Int × Co × List La × List Pa} {K : AS → Prop} (hlen : r.2.2.1.length < 1000000000) (hc : inChk X ⟨tab, CF, 7000, 41⟩ (some t) ⟨tm, BLt s m r, [(6000, some ⟨.la, r.2.2.1, true⟩), (6001, some ⟨.pa, r.2.2.2, true⟩)]⟩ = true)
    (h : ∀ bl, bl = [] ∨ (∃ x : La, bl = [(7004, 40, [.v (.int .i64 x.seq), .v (.string x.lot), .v (.int .i64 x.qty), .v (.int .i64 x.value)])]) → K ⟨(t, .one (.v (.bool (overS (wr (s.q + r.2.1.qty)) (wr (s.v + r.2.1.value)) r.2.1.var r.2.2.1)))) :: tm, app2 bl (BLt s m r), [(6000, some ⟨.la, r.2.2.1, true⟩), (6001, some ⟨.pa, r.2.2.2, true⟩)]⟩) :
    InlP Tryd.prog g X (some t) 26 [.one (.ptr 28 0)] ⟨tm, BLt s m r, [(6000, some ⟨.la, r.2.2.1, true⟩), (6001, some ⟨.pa, r.2.2.2, true⟩)]⟩ K := by
  refine InlP.intro (X' := ⟨tab, CF, 7000, 41⟩) (cf_at hL hS) mixed_ok Tryd.func26 (by kernel_rfl) rfl rfl (le_of_ble (by kernel_rfl)) hc ?_
  conv => whnf
  refine LoopP.introR (cf_at hL hS) mixed_ok (ι := Nat) (fun k => ⟨[(11, .one (.v (.int .i64 (k : Int)))), (10, .one (.v (.int .i64 (r.2.2.1.length : Int)))), (9, .one (.row 6000)), (0, .one (.ptr 28 0))], BLt s m r, [(6000, some ⟨.la, r.2.2.1, true⟩), (6001, some ⟨.pa, r.2.2.2, true⟩)]⟩) (fun k => k ≤ r.2.2.1.length ∧ (r.2.2.1.any fun l => farS l.value) = (r.2.2.1.drop k).any fun l => farS l.value) (fun k => r.2.2.1.length - k) 0 ?_ ?_ ?_
  · exact ⟨Nat.zero_le _, by simp⟩
  · refine ⟨[], ?_⟩
    (refine ⟨?_, ?_, ?_, by kernel_rfl⟩ <;> repeat' (first | exact trivial | exact rfl | assumption | apply And.intro))
  · rintro k ⟨hk, hfi⟩
    conv => whnf
    refine cond_ (fun hk1 => ?_) (fun hk1 => ?_)
    · have hlt : k < r.2.2.1.length := by have := of_decide_eq_true hk1; omega
      have i1 : 0 ≤ (k : Int) := by omega
      have i2 : (k : Int) < (r.2.2.1.length : Int) := by omega
      ((conv => whnf) <;> repeat (refine obl_ ?_; conv => whnf))
      refine cond_ (fun ha => ?_) (fun ha => ?_)
      · have ha' : farS (r.2.2.1.getD k zLa).value = true := ha
        have e : overS (wr (s.q + r.2.1.qty)) (wr (s.v + r.2.1.value)) r.2.1.var r.2.2.1 = true := by
          unfold overS
          rw [hfi, any_yes zLa hlt ha']
          rfl
        have hh := h _ (.inr ⟨r.2.2.1.getD k zLa, rfl⟩)
        rw [e] at hh
        ((conv => whnf) <;> repeat (refine obl_ ?_; conv => whnf))
        exact hh
      · have ha' : farS (r.2.2.1.getD k zLa).value = false := ha
        ((conv => whnf) <;> repeat (refine obl_ ?_; conv => whnf))
        refine ⟨k + 1, ⟨hlt, by rw [hfi, any_no zLa hlt ha']⟩, by omega, [], ?_⟩
        (refine ⟨?_, ?_, ?_, by kernel_rfl⟩ <;> repeat' (first | exact trivial | exact rfl | assumption | apply And.intro))
        exact up_ (by omega)
    · have hk2 := of_decide_eq_false hk1
      have e0 : (r.2.2.1.any fun l => farS l.value) = false := by rw [hfi, any_end (by omega)]
      have hh := h [] (.inl rfl)
      have e : overS (wr (s.q + r.2.1.qty)) (wr (s.v + r.2.1.value)) r.2.1.var r.2.2.1 = (decide (1000000000 < wr (s.q + r.2.1.qty)) || farS (wr (s.v + r.2.1.value)) || farS r.2.1.var) := by
        unfold overS
        rw [e0]
        simp only [Bool.false_or]
      rw [e] at hh
      ((conv => whnf) <;> repeat (refine obl_ ?_; conv => whnf))
      refine cond_ (fun hb => ?_) (fun hb => ?_)
      · rw [hb] at hh
        ((conv => whnf) <;> repeat (refine obl_ ?_; conv => whnf))
        exact hh
      · rw [hb] at hh
        ((conv => whnf) <;> repeat (refine obl_ ?_; conv => whnf))
        refine cond_ (fun hd => ?_) (fun hd => ?_)
        · rw [hd] at hh
          ((conv => whnf) <;> repeat (refine obl_ ?_; conv => whnf))
          exact hh
        · rw [hd] at hh
          ((conv => whnf) <;> repeat (refine obl_ ?_; conv => whnf))
          exact hh
theorem issueS_len : ∀ (la : List La) (q v : Int), (issueS la q v).1.length ≤ la.length
  | [], q, v => Nat.le_refl _
  | x :: r, q, v => by
    simp only [issueS]
    split
    · split
      · exact Nat.le_succ_of_le (issueS_len r _ _)
      · simp
    · simp
theorem moveS_len {lc : Bool} {s : St} {m : Mv} (n1 : s.la.length < 400000000) : (moveS lc s m).2.2.1.length < 1000000000 := by
  unfold moveS
  simp only
  repeat' split
  all_goals first | (simp only [List.length_append, List.length_set, List.length_cons, List.length_nil]; omega) | skip
  · have := issueS_len s.la m.qty 0
    show (issueS s.la m.qty 0).1.length < 1000000000
    omega
  · unfold takeS
    simp only
    split
    · simp; omega
    · simp; omega
theorem wr0 {a b : Int} (ha : I64 a) (hb : I64 b) : wr (a - b) = 0 ↔ a = b := by
  obtain ⟨h1, h2⟩ := ha
  obtain ⟨h3, h4⟩ := hb
  unfold wr
  rw [IntKind.wrap_i64]
  omega
theorem take_rm2 {l : List La} {z : Int} (h0 : 0 ≤ z) (h : z < l.length) (hn : l.length < 1000000000) (y w : La) : (((l.set z.toNat y).set z.toNat w).take z.toNat) ++ ((((l.set z.toNat y).set z.toNat w).take (((l.set z.toNat y).set z.toNat w).length)).drop (wr (z + 1)).toNat) = l.take z.toNat ++ l.drop (z.toNat + 1) := by
  have := take_rm h0 h hn y w
  rw [List.drop_zero, List.nil_append] at this
  exact this
theorem take_q {l : List La} {Z : Nat} (h : Z < l.length) (a b : Int) : (((l.set Z { l.getD Z zLa with qty := a }).set Z { (l.set Z { l.getD Z zLa with qty := a }).getD Z zLa with value := b }).getD Z zLa).qty = a := by
  rw [getD_set (by simpa using h), getD_set h]
theorem beq_ne {a b : Int} (h : (a == b) = false) (k : a = b) : False := by
  rw [k] at h
  simp at h
theorem take_up2 {l : List La} {Z : Nat} (h : Z < l.length) (a v : Int) : (l.set Z { l.getD Z zLa with qty := a }).set Z { (l.set Z { l.getD Z zLa with qty := a }).getD Z zLa with value := wr (((l.set Z { l.getD Z zLa with qty := a }).getD Z zLa).value - v) } = l.set Z { l.getD Z zLa with qty := a, value := wr ((l.getD Z zLa).value - v) } := by
  rw [List.set_set, getD_set h]
theorem receive_inl {g : G} (hL : Laid g.W0) (hg : ∀ i, ¬ g.S i) {s : St} {m : Mv} {tm : List (Nat × AV)} (hs : StI s) (hm : MvI m) (n1 : s.la.length < 400000000) (n2 : s.pa.length < 1000000000) (t7 : Ex.look tm 7 = .one (.ptr 28 0)) (t5 : Ex.look tm 5 = .one (.ptr 15 0)) (t4 : Ex.look tm 4 = .one (.ptr 14 0)) (h1' : m.kind = 1) :
    InlP Tryd.prog g (cx CF 102) (some 56) 21 [.one (.ptr 28 0)] ⟨tm, BLs s m, RWs s⟩ (fun A1 => ∃ i : Unit, True ∧ ∃ σ, LeR (cx CF 102).base σ A1 (IT s m (moveS true s m))) := by
  have l1 : s.la.length ≤ 1000000000 := by omega
  have l2 : s.pa.length ≤ 1000000000 := by omega
  refine InlP.intro (X' := ⟨tab, CF, 1000, 53⟩) (cf_at hL hg) mixed_ok Tryd.func21 (by kernel_rfl) rfl rfl (le_of_ble (by kernel_rfl)) (by kernel_rfl) ?_
  ((conv => whnf) <;> repeat (refine obl_ ?_; conv => whnf))
  refine InlP.intro (X' := ⟨tab, CF, 2000, 16⟩) (cf_at hL hg) mixed_ok Tryd.func38 (by kernel_rfl) rfl rfl (le_of_ble (by kernel_rfl)) (by kernel_rfl) ?_
  ((conv => whnf) <;> repeat (refine obl_ ?_; conv => whnf))
  rw [moveS_1 h1']
  refine ⟨(), trivial, [(6000, some 2012), (6001, some 1037)], ?_⟩
  (refine ⟨?_, ?_, ?_, by kernel_rfl⟩ <;> repeat' (first | exact trivial | exact rfl | assumption | apply And.intro))
theorem issue_inl {g : G} (hL : Laid g.W0) (hg : ∀ i, ¬ g.S i) {s : St} {m : Mv} {tm : List (Nat × AV)} (hs : StI s) (hm : MvI m) (n1 : s.la.length < 400000000) (n2 : s.pa.length < 1000000000) (t7 : Ex.look tm 7 = .one (.ptr 28 0)) (t5 : Ex.look tm 5 = .one (.ptr 15 0)) (t4 : Ex.look tm 4 = .one (.ptr 14 0)) (h2' : m.kind = 2) :
    InlP Tryd.prog g (cx CF 102) (some 56) 22 [.one (.ptr 28 0)] ⟨tm, BLs s m, RWs s⟩ (fun A1 => ∃ i : Unit, True ∧ ∃ σ, LeR (cx CF 102).base σ A1 (IT s m (moveS true s m))) := by
  have l1 : s.la.length ≤ 1000000000 := by omega
  have l2 : s.pa.length ≤ 1000000000 := by omega
  refine InlP.intro (X' := ⟨tab, CF, 1000, 84⟩) (cf_at hL hg) mixed_ok Tryd.func22 (by kernel_rfl) rfl rfl (le_of_ble (by kernel_rfl)) (by kernel_rfl) ?_
  ((conv => whnf) <;> repeat (refine obl_ ?_; conv => whnf))
  refine cond_ (fun hq => ?_) (fun hq => ?_)
  · rw [moveS_2e h2' (of_decide_eq_true hq)]
    ((conv => whnf) <;> repeat (refine obl_ ?_; conv => whnf))
    refine ⟨(), trivial, [(6000, some 22), (6001, some 522)], ?_⟩
    (refine ⟨?_, ?_, ?_, by kernel_rfl⟩ <;> repeat' (first | exact trivial | exact rfl | assumption | apply And.intro))
  · rw [moveS_2 h2' (of_decide_eq_false hq)]
    ((conv => whnf) <;> repeat (refine obl_ ?_; conv => whnf))
    refine LoopP.introR (cf_at hL hg) mixed_ok (ι := List La × Int × Int) (fun k => ⟨[(5, .one (.v (.int .i64 k.2.2))), (4, .one (.v (.int .i64 k.2.1))), (3, .one (.ptr 1003 0)), (0, .one (.ptr 28 0))], [(1003, 33, mvL m), (28, 52, [.v (.int .i64 s.q), .v (.int .i64 s.v), .v (.int .i64 s.pr), .row 1900, .row 522, .v (.int .i64 m.seq), .v (.int .i64 m.day), .v (.string m.item), .v (.int .i64 m.kind), .v (.int .i64 m.qty), .v (.int .i64 m.cost), .v (.string m.lot), .v (.int .i64 m.ref), .v (.int .i64 m.seq), .v (.int .i64 0), .v (.int .i64 0), .v (.int .i64 0)]), (15, 28, [.v (.int .i64 0), .v (.int .i64 0), .v (.int .i64 0), .v (.int .i64 0)]), (14, 26, [.v (.int .i64 0), .v (.int .i64 0), .v (.int .i64 0), .v (.slice none 0 0), .v (.slice none 0 0)]), (13, 33, mvL m), (12, 26, [.v (.int .i64 s.q), .v (.int .i64 s.v), .v (.int .i64 s.pr), .row 0, .row 1])], [(0, some ⟨.la, s.la, false⟩), (1, some ⟨.pa, s.pa, false⟩), (22, none), (1900, some ⟨.la, k.1, true⟩), (522, some ⟨.pa, s.pa, true⟩)]⟩) (fun k => issueS s.la m.qty 0 = issueS k.1 k.2.1 k.2.2 ∧ (∀ x ∈ k.1, LaI x) ∧ k.1.length ≤ s.la.length ∧ I64 k.2.1 ∧ I64 k.2.2) (fun k => 2 * k.1.length + if 0 < k.2.1 then 1 else 0) (s.la, m.qty, 0) ?_ ?_ ?_
    · exact ⟨rfl, hs.la, Nat.le_refl _, hm.qty, by simp [I64]⟩
    · refine ⟨[(1900, some 22)], ?_⟩
      (refine ⟨?_, ?_, ?_, by kernel_rfl⟩ <;> repeat' (first | exact trivial | exact rfl | assumption | apply And.intro))
    · rintro ⟨la, q, v⟩ ⟨hi, hla, hlen, hq64, hv64⟩
      simp only at hi hla hlen hq64 hv64
      conv => whnf
      refine cond_ (fun hp => ?_) (fun hp => ?_)
      · have hp' := of_decide_eq_true hp
        conv => whnf
        refine cond_ (fun hl => ?_) (fun hl => ?_)
        · cases la with
          | nil => simp at hl
          | cons x r =>
            have hx := hla x List.mem_cons_self
            have hx1 := hx.2.1
            have hx2 := hx.2.2
            have hlen' : r.length + 1 ≤ s.la.length := by simpa using hlen
            have hn : I64 (if x.qty < q then x.qty else q) := by
              split
              · exact hx1
              · exact hq64
            have hp0 : (0 : Int) ≤ 0 := Int.le_refl _
            have hp1 : (0 : Int) < ((x :: r).length : Int) := by simp
            ((conv => whnf) <;> repeat (refine obl_ ?_; conv => whnf))
            refine InlP.intro (X' := ⟨tab, CF, 2000, 51⟩) (cf_at hL hg) mixed_ok Tryd.func39 (by kernel_rfl) rfl rfl (le_of_ble (by kernel_rfl)) (by kernel_rfl) ?_
            ((conv => whnf) <;> repeat (refine obl_ ?_; conv => whnf))
            refine cond_ (fun hz => ?_) (fun hz => ?_)
            · have hz' : wr (x.qty - (if x.qty < q then x.qty else q)) = 0 := beq_iff_eq.1 hz
              have he' : x.qty = if x.qty < q then x.qty else q := (wr0 hx1 hn).1 hz'
              have hxq : x.qty ≤ q := by split at he' <;> omega
              have hw1 : (0 : Int) ≤ wr (0 + 1) := by decide
              have hw2 : wr (0 + 1) ≤ ((x :: r).length : Int) := by rw [show wr (0 + 1) = 1 from rfl]; simp; omega
              have hw3 : (0 : Int) ≤ ((x :: r).length : Int) := by omega
              ((conv => whnf) <;> repeat (refine obl_ ?_; conv => whnf))
              refine InlP.intro (X' := ⟨tab, CF, 3000, 25⟩) (cf_at hL hg) mixed_ok Tryd.func59 (by kernel_rfl) rfl rfl (le_of_ble (by kernel_rfl)) (by kernel_rfl) ?_
              ((conv => whnf) <;> repeat (refine obl_ ?_; conv => whnf))
              refine ⟨(r, wr (q - (if x.qty < q then x.qty else q)), wr (v + partS x.value (if x.qty < q then x.qty else q) x.qty)), ?f, ?m, [(1900, some 3021)], ?l⟩
              case l =>
                (refine ⟨?_, ?_, ?_, by kernel_rfl⟩ <;> repeat' (first | exact trivial | exact rfl | assumption | apply And.intro))
                show ((((x :: r).set 0 _).set 0 _).take 0) ++ ((((x :: r).set 0 _).set 0 _).take (((x :: r).set 0 _).set 0 _).length).drop 1 = r
                simp
              case m =>
                simp only [List.length_cons]
                split <;> split <;> omega
              case f =>
                rw [← he']
                exact ⟨hi.trans (issueS_pos hp' hxq), fun y hy => hla y (List.mem_cons_of_mem _ hy), by simp at hlen ⊢; omega, i64_wrap _, i64_wrap _⟩
            · have he' : ¬ x.qty = if x.qty < q then x.qty else q := fun e => beq_ne hz ((wr0 hx1 hn).2 e)
              have hnq : (if x.qty < q then x.qty else q) = q := by
                split
                · rename_i hlt; rw [if_pos hlt] at he'; exact absurd rfl he'
                · rfl
              have hxq : ¬ x.qty ≤ q := by
                rw [hnq] at he'
                intro hle
                have : ¬ x.qty < q := fun hlt => by rw [if_pos hlt] at hnq; omega
                omega
              ((conv => whnf) <;> repeat (refine obl_ ?_; conv => whnf))
              refine ⟨({ x with qty := wr (x.qty - q), value := wr (x.value - partS x.value q x.qty) } :: r, wr (q - (if x.qty < q then x.qty else q)), wr (v + partS x.value (if x.qty < q then x.qty else q) x.qty)), ?f, ?m, [], ?l⟩
              case l =>
                (refine ⟨?_, ?_, ?_, by kernel_rfl⟩ <;> repeat' (first | exact trivial | exact rfl | assumption | apply And.intro))
                show La.mk x.seq x.lot (wr (x.qty - (if x.qty < q then x.qty else q))) (wr (x.value - partS x.value (if x.qty < q then x.qty else q) x.qty)) :: r = _
                rw [hnq]
              case m =>
                simp only [List.length_cons]
                rw [hnq, show wr (q - q) = 0 from by rw [Int.sub_self]; rfl, if_pos hp']
                simp
              case f =>
                rw [hnq]
                have hend : issueS s.la m.qty 0 = issueS ({ x with qty := wr (x.qty - q), value := wr (x.value - partS x.value q x.qty) } :: r) (wr (q - q)) (wr (v + partS x.value q x.qty)) := by
                  rw [hi, issueS_neg hp' hxq, issueS_end (.inl (by rw [Int.sub_self]; decide))]
                refine ⟨hend, fun y hy => ?_, hlen, i64_wrap _, i64_wrap _⟩
                rcases List.mem_cons.1 hy with rfl | hy
                · exact ⟨hx.1, i64_wrap _, i64_wrap _⟩
                · exact hla y (List.mem_cons_of_mem _ hy)
        · have hll : la = [] := by
            have := of_decide_eq_false hl
            cases la with
            | nil => rfl
            | cons _ _ => simp at this
          rw [issueS_end (.inr hll)] at hi
          rw [hi]
          ((conv => whnf) <;> repeat (refine obl_ ?_; conv => whnf))
          refine ⟨(), trivial, [(6000, some 1900), (6001, some 1067)], ?_⟩
          (refine ⟨?_, ?_, ?_, by kernel_rfl⟩ <;> repeat' (first | exact trivial | exact rfl | assumption | apply And.intro))
      · rw [issueS_end (.inl (of_decide_eq_false hp))] at hi
        rw [hi]
        ((conv => whnf) <;> repeat (refine obl_ ?_; conv => whnf))
        refine ⟨(), trivial, [(6000, some 1900), (6001, some 1067)], ?_⟩
        (refine ⟨?_, ?_, ?_, by kernel_rfl⟩ <;> repeat' (first | exact trivial | exact rfl | assumption | apply And.intro))
theorem back_inl {g : G} (hL : Laid g.W0) (hg : ∀ i, ¬ g.S i) {s : St} {m : Mv} {tm : List (Nat × AV)} (hs : StI s) (hm : MvI m) (n1 : s.la.length < 400000000) (n2 : s.pa.length < 1000000000) (t7 : Ex.look tm 7 = .one (.ptr 28 0)) (t5 : Ex.look tm 5 = .one (.ptr 15 0)) (t4 : Ex.look tm 4 = .one (.ptr 14 0)) (h3' : m.kind = 3) :
    InlP Tryd.prog g (cx CF 102) (some 56) 23 [.one (.ptr 28 0)] ⟨tm, BLs s m, RWs s⟩ (fun A1 => ∃ i : Unit, True ∧ ∃ σ, LeR (cx CF 102).base σ A1 (IT s m (moveS true s m))) := by
  have e2 := pastS_find (kind := 2) (seq := m.ref) (by decide) s.pa
  have l1 : s.la.length ≤ 1000000000 := by omega
  have l2 : s.pa.length ≤ 1000000000 := by omega
  refine InlP.intro (X' := ⟨tab, CF, 1000, 90⟩) (cf_at hL hg) mixed_ok Tryd.func23 (by kernel_rfl) rfl rfl (le_of_ble (by kernel_rfl)) (by kernel_rfl) ?_
  ((conv => whnf) <;> repeat (refine obl_ ?_; conv => whnf))
  refine referred_inl hL hg n2 (by kernel_rfl) (fun hf => ?_) (fun y0 y1 hq => ?_) (fun y0 y1 hq => ?_)
  · rw [moveS_3a h3' (by rw [← e2]; exact hf)]
    ((conv => whnf) <;> repeat (refine obl_ ?_; conv => whnf))
    refine ⟨(), trivial, [(6000, some 22), (6001, some 522)], ?_⟩
    (refine ⟨?_, ?_, ?_, by kernel_rfl⟩ <;> repeat' (first | exact trivial | exact rfl | assumption | apply And.intro))
  · rw [e2] at y0 y1 hq
    rw [moveS_3b h3' (by omega) hq]
    ((conv => whnf) <;> repeat (refine obl_ ?_; conv => whnf))
    refine ⟨(), trivial, [(6000, some 22), (6001, some 522)], ?_⟩
    (refine ⟨?_, ?_, ?_, by kernel_rfl⟩ <;> repeat' (first | exact trivial | exact rfl | assumption | apply And.intro))
  · rw [e2] at y0 y1 hq ⊢
    have hf' : ¬ findS 2 m.ref s.pa < 0 := by omega
    obtain ⟨hz0, hz1, hz2⟩ := find_lt hf'
    have hP := hs.pa _ (getD_mem zPa hz2)
    have hqty := hm.qty
    rw [moveS_3 h3' hf' rfl hq]
    ((conv => whnf) <;> repeat (refine obl_ ?_; conv => whnf))
    refine InlP.intro (X' := ⟨tab, CF, 2000, 16⟩) (cf_at hL hg) mixed_ok Tryd.func38 (by kernel_rfl) rfl rfl (le_of_ble (by kernel_rfl)) (by kernel_rfl) ?_
    ((conv => whnf) <;> repeat (refine obl_ ?_; conv => whnf))
    refine ⟨(), trivial, [(6000, some 2012), (6001, some 522)], ?_⟩
    (refine ⟨?_, ?_, ?_, by kernel_rfl⟩ <;> repeat' (first | exact trivial | exact rfl | assumption | apply And.intro))
    · exact la_back hz2 _ _ _ _ _ _
    · exact pa_back hz2 _ _
theorem send_inl {g : G} (hL : Laid g.W0) (hg : ∀ i, ¬ g.S i) {s : St} {m : Mv} {tm : List (Nat × AV)} (hs : StI s) (hm : MvI m) (n1 : s.la.length < 400000000) (n2 : s.pa.length < 1000000000) (t7 : Ex.look tm 7 = .one (.ptr 28 0)) (t5 : Ex.look tm 5 = .one (.ptr 15 0)) (t4 : Ex.look tm 4 = .one (.ptr 14 0)) (h4' : m.kind = 4) :
    InlP Tryd.prog g (cx CF 102) (some 56) 24 [.one (.ptr 28 0)] ⟨tm, BLs s m, RWs s⟩ (fun A1 => ∃ i : Unit, True ∧ ∃ σ, LeR (cx CF 102).base σ A1 (IT s m (moveS true s m))) := by
  have e1 := pastS_find (kind := 1) (seq := m.ref) (by decide) s.pa
  have l1 : s.la.length ≤ 1000000000 := by omega
  have l2 : s.pa.length ≤ 1000000000 := by omega
  refine InlP.intro (X' := ⟨tab, CF, 1000, 88⟩) (cf_at hL hg) mixed_ok Tryd.func24 (by kernel_rfl) rfl rfl (le_of_ble (by kernel_rfl)) (by kernel_rfl) ?_
  ((conv => whnf) <;> repeat (refine obl_ ?_; conv => whnf))
  refine referred_inl hL hg n2 (by kernel_rfl) (fun hf => ?_) (fun y0 y1 hq => ?_) (fun y0 y1 hq => ?_)
  · rw [moveS_4a h4' (by rw [← e1]; exact hf)]
    ((conv => whnf) <;> repeat (refine obl_ ?_; conv => whnf))
    refine ⟨(), trivial, [(6000, some 22), (6001, some 522)], ?_⟩
    (refine ⟨?_, ?_, ?_, by kernel_rfl⟩ <;> repeat' (first | exact trivial | exact rfl | assumption | apply And.intro))
  · rw [e1] at y0 y1 hq
    rw [moveS_4b h4' (by omega) rfl hq]
    ((conv => whnf) <;> repeat (refine obl_ ?_; conv => whnf))
    refine ⟨(), trivial, [(6000, some 22), (6001, some 522)], ?_⟩
    (refine ⟨?_, ?_, ?_, by kernel_rfl⟩ <;> repeat' (first | exact trivial | exact rfl | assumption | apply And.intro))
  · rw [e1] at y0 y1 hq ⊢
    have hf' : ¬ findS 1 m.ref s.pa < 0 := by omega
    obtain ⟨hz0, hz1, hz2⟩ := find_lt hf'
    have hqty := hm.qty
    ((conv => whnf) <;> repeat (refine obl_ ?_; conv => whnf))
    refine layer_inl hL hg (by omega) (by kernel_rfl) (fun hl => ?_) (fun x0 x1 => ?_)
    · rw [moveS_4c h4' hf' rfl hq hl]
      ((conv => whnf) <;> repeat (refine obl_ ?_; conv => whnf))
      refine ⟨(), trivial, [(6000, some 22), (6001, some 522)], ?_⟩
      (refine ⟨?_, ?_, ?_, by kernel_rfl⟩ <;> repeat' (first | exact trivial | exact rfl | assumption | apply And.intro))
    · have hl' : ¬ layerS m.ref s.la < 0 := by omega
      obtain ⟨hy0, hy1, hy2⟩ := layer_lt hl'
      have hX := hs.la _ (getD_mem zLa hy2)
      have hX1 := hX.2.1
      have hX2 := hX.2.2
      ((conv => whnf) <;> repeat (refine obl_ ?_; conv => whnf))
      refine cond_ (fun hx => absurd (of_decide_eq_true hx) hl') (fun hx => ?_)
      ((conv => whnf) <;> repeat (refine obl_ ?_; conv => whnf))
      refine cond_ (fun hlq => ?_) (fun hlq => ?_)
      · rw [moveS_4d h4' hf' rfl hq hl' (of_decide_eq_true hlq)]
        ((conv => whnf) <;> repeat (refine obl_ ?_; conv => whnf))
        refine ⟨(), trivial, [(6000, some 22), (6001, some 522)], ?_⟩
        (refine ⟨?_, ?_, ?_, by kernel_rfl⟩ <;> repeat' (first | exact trivial | exact rfl | assumption | apply And.intro))
      rw [moveS_4 h4' hf' rfl hq hl' (of_decide_eq_false hlq)]
      have hy3 : layerS m.ref s.la ≤ (s.la.length : Int) := by omega
      have hw := wr_at hy0 hy1 (by omega)
      have hw1 : 0 ≤ wr (layerS m.ref s.la + 1) := by omega
      have hw2 : wr (layerS m.ref s.la + 1) ≤ (s.la.length : Int) := by omega
      ((conv => whnf) <;> repeat (refine obl_ ?_; conv => whnf))
      refine InlP.intro (X' := ⟨tab, CF, 8000, 51⟩) (cf_at hL hg) mixed_ok Tryd.func39 (by kernel_rfl) rfl rfl (le_of_ble (by kernel_rfl)) (by kernel_rfl) ?_
      ((conv => whnf) <;> repeat (refine obl_ ?_; conv => whnf))
      refine cond_ (fun hz => ?_) (fun hz => ?_)
      · have hz' : wr ((s.la.getD (layerS m.ref s.la).toNat zLa).qty - m.qty) = 0 := (take_q hy2 _ _).symm.trans (beq_iff_eq.1 hz)
        rw [takeS_1 ((wr0 hX1 hqty).1 hz')]
        ((conv => whnf) <;> repeat (refine obl_ ?_; conv => whnf))
        refine InlP.intro (X' := ⟨tab, CF, 9000, 25⟩) (cf_at hL hg) mixed_ok Tryd.func59 (by kernel_rfl) rfl rfl (le_of_ble (by kernel_rfl)) (by kernel_rfl) ?_
        ((conv => whnf) <;> repeat (refine obl_ ?_; conv => whnf))
        refine ⟨(), trivial, [(6000, some 9021), (6001, some 522)], ?_⟩
        (refine ⟨?_, ?_, ?_, by kernel_rfl⟩ <;> repeat' (first | exact trivial | exact rfl | assumption | apply And.intro))
        exact take_rm2 hy0 hy1 (by omega) _ _
      · have hz' : ¬ (s.la.getD (layerS m.ref s.la).toNat zLa).qty = m.qty := fun e => beq_ne hz ((take_q hy2 _ _).trans ((wr0 hX1 hqty).2 e))
        rw [takeS_2 hz']
        ((conv => whnf) <;> repeat (refine obl_ ?_; conv => whnf))
        refine ⟨(), trivial, [(6000, some 22), (6001, some 522)], ?_⟩
        (refine ⟨?_, ?_, ?_, by kernel_rfl⟩ <;> repeat' (first | exact trivial | exact rfl | assumption | apply And.intro))
        exact take_up2 hy2 _ _
theorem land_inl {g : G} (hL : Laid g.W0) (hg : ∀ i, ¬ g.S i) {s : St} {m : Mv} {tm : List (Nat × AV)} (hs : StI s) (hm : MvI m) (n1 : s.la.length < 400000000) (n2 : s.pa.length < 1000000000) (t7 : Ex.look tm 7 = .one (.ptr 28 0)) (t5 : Ex.look tm 5 = .one (.ptr 15 0)) (t4 : Ex.look tm 4 = .one (.ptr 14 0)) (h5' : m.kind = 5) :
    InlP Tryd.prog g (cx CF 102) (some 56) 25 [.one (.ptr 28 0)] ⟨tm, BLs s m, RWs s⟩ (fun A1 => ∃ i : Unit, True ∧ ∃ σ, LeR (cx CF 102).base σ A1 (IT s m (moveS true s m))) := by
  have e1 := pastS_find (kind := 1) (seq := m.ref) (by decide) s.pa
  have l1 : s.la.length ≤ 1000000000 := by omega
  have l2 : s.pa.length ≤ 1000000000 := by omega
  refine InlP.intro (X' := ⟨tab, CF, 1000, 78⟩) (cf_at hL hg) mixed_ok Tryd.func25 (by kernel_rfl) rfl rfl (le_of_ble (by kernel_rfl)) (by kernel_rfl) ?_
  ((conv => whnf) <;> repeat (refine obl_ ?_; conv => whnf))
  refine referred_inl hL hg n2 (by kernel_rfl) (fun hf => ?_) (fun y0 y1 hq => ?_) (fun y0 y1 hq => ?_)
  · rw [moveS_5a h5' (by rw [← e1]; exact hf)]
    ((conv => whnf) <;> repeat (refine obl_ ?_; conv => whnf))
    refine ⟨(), trivial, [(6000, some 22), (6001, some 522)], ?_⟩
    (refine ⟨?_, ?_, ?_, by kernel_rfl⟩ <;> repeat' (first | exact trivial | exact rfl | assumption | apply And.intro))
  · rw [e1] at y0 y1 hq
    rw [moveS_5b h5' (by omega) rfl ⟨rfl, hq⟩]
    ((conv => whnf) <;> repeat (refine obl_ ?_; conv => whnf))
    refine ⟨(), trivial, [(6000, some 22), (6001, some 522)], ?_⟩
    (refine ⟨?_, ?_, ?_, by kernel_rfl⟩ <;> repeat' (first | exact trivial | exact rfl | assumption | apply And.intro))
  · rw [e1] at y0 y1 hq ⊢
    have hf' : ¬ findS 1 m.ref s.pa < 0 := by omega
    obtain ⟨hz0, hz1, hz2⟩ := find_lt hf'
    have hP := hs.pa _ (getD_mem zPa hz2)
    have hP1 := hP.2.2.1
    have hcost := hm.cost
    have hq' : ¬ (true = true ∧ wr ((s.pa.getD (findS 1 m.ref s.pa).toNat zPa).qty - (s.pa.getD (findS 1 m.ref s.pa).toNat zPa).used) < m.qty) := fun e => hq e.2
    ((conv => whnf) <;> repeat (refine obl_ ?_; conv => whnf))
    refine layer_inl hL hg (by omega) (by kernel_rfl) (fun hl => ?_) (fun x0 x1 => ?_)
    · rw [moveS_5c h5' hf' rfl hq' hl]
      ((conv => whnf) <;> repeat (refine obl_ ?_; conv => whnf))
      refine ⟨(), trivial, [(6000, some 22), (6001, some 522)], ?_⟩
      (refine ⟨?_, ?_, ?_, by kernel_rfl⟩ <;> repeat' (first | exact trivial | exact rfl | assumption | apply And.intro))
      exact congrArg L.v (congrArg (Value.int IntKind.i64) (by rw [Int.sub_zero]; exact wrap_id hcost.1 hcost.2))
    · have hl' : ¬ layerS m.ref s.la < 0 := by omega
      obtain ⟨hy0, hy1, hy2⟩ := layer_lt hl'
      have hX := hs.la _ (getD_mem zLa hy2)
      have hX1 := hX.2.1
      have hX2 := hX.2.2
      rw [moveS_5 h5' hf' rfl hq' hl' rfl]
      ((conv => whnf) <;> repeat (refine obl_ ?_; conv => whnf))
      refine cond_ (fun hx => ?_) (fun hx => absurd hy0 (of_decide_eq_false hx))
      ((conv => whnf) <;> repeat (refine obl_ ?_; conv => whnf))
      refine ⟨(), trivial, [(6000, some 22), (6001, some 522)], ?_⟩
      (refine ⟨?_, ?_, ?_, by kernel_rfl⟩ <;> repeat' (first | exact trivial | exact rfl | assumption | apply And.intro))
theorem none_inl {g : G} (hL : Laid g.W0) (hg : ∀ i, ¬ g.S i) {s : St} {m : Mv} {tm : List (Nat × AV)} (hs : StI s) (hm : MvI m) (n1 : s.la.length < 400000000) (n2 : s.pa.length < 1000000000) (t7 : Ex.look tm 7 = .one (.ptr 28 0)) (t5 : Ex.look tm 5 = .one (.ptr 15 0)) (t4 : Ex.look tm 4 = .one (.ptr 14 0)) (h1 : m.kind ≠ 1) (h2 : m.kind ≠ 2) (h3 : m.kind ≠ 3) (h4 : m.kind ≠ 4) (h5 : m.kind ≠ 5) :
    InlP Tryd.prog g (cx CF 102) (some 56) 20 [] ⟨tm, BLs s m, RWs s⟩ (fun A1 => ∃ i : Unit, True ∧ ∃ σ, LeR (cx CF 102).base σ A1 (IT s m (moveS true s m))) := by
  have l1 : s.la.length ≤ 1000000000 := by omega
  have l2 : s.pa.length ≤ 1000000000 := by omega
  refine InlP.intro (X' := ⟨tab, CF, 1000, 1⟩) (cf_at hL hg) mixed_ok Tryd.func20 (by kernel_rfl) rfl rfl (le_of_ble (by kernel_rfl)) (by kernel_rfl) ?_
  rw [moveS_0 h1 h2 h3 h4 h5]
  ((conv => whnf) <;> repeat (refine obl_ ?_; conv => whnf))
  refine ⟨(), trivial, [(6000, some 22), (6001, some 522)], ?_⟩
  (refine ⟨?_, ?_, ?_, by kernel_rfl⟩ <;> repeat' (first | exact trivial | exact rfl | assumption | apply And.intro))
theorem fstep_calls {W : World} {LV PV : Value} (hL : Laid W) (s : St) (m : Mv) (h1 : Src W LV .la s.la) (h2 : Src W PV .pa s.pa) (hs : StI s) (hm : MvI m) (n1 : s.la.length < 400000000) (n2 : s.pa.length < 1000000000) (z1 : m.item.size ≤ 140737488351232) (z2 : m.lot.size ≤ 140737488351232) :
    Calls Tryd.prog 10 #[.agg #[.int .i64 s.q, .int .i64 s.v, .int .i64 s.pr, LV, PV], .agg (mvC m).toArray] W fun e w1 => StepW W w1 (stepS knF true s m) e := by
  obtain ⟨ρ, e1, e2, hS⟩ := start2 h1 h2
  have hg : ∀ i, ¬ (gW W).S i := fun i h => h
  refine (calls_awp (f := 10) (vs := [.agg #[.int .i64 s.q, .int .i64 s.v, .int .i64 s.pr, LV, PV], .agg (mvC m).toArray]) (cx_ok (cf_ok hL hg)) mixed_ok Tryd.func10 rfl rfl hS (avs := [.agg [.v (.int .i64 s.q), .v (.int .i64 s.v), .v (.int .i64 s.pr), .row 0, .row 1], .agg (mvL m)])
    (fun ρ' h => ⟨⟨_, rfl, rfl, rfl, rfl, row_rel h (by simp [findR]) e1 h1, row_rel h (by simp [findR]) e2 h2, trivial⟩, mvL_args m ρ', trivial⟩) (le_of_ble (by kernel_rfl)) (K := fun v A1 => StepK (stepS knF true s m) v A1) ?_).mono ?_
  · unfold mvL
    have l1 : s.la.length ≤ 1000000000 := by omega
    have l2 : s.pa.length ≤ 1000000000 := by omega
    ((conv => whnf) <;> repeat (refine obl_ ?_; conv => whnf))
    refine cond_ (fun ho => ?_) (fun ho => ?_)
    · have ho' : oneM m ≠ 0 := bne_iff_ne.1 ho
      rw [stepS_1 ho']
      ((conv => whnf) <;> repeat (refine obl_ ?_; conv => whnf))
      exact .inl ⟨ho', rfl⟩
    have ho' : ¬ oneM m ≠ 0 := fun e => by
      have : (oneM m != 0) = false := ho
      simp at this
      exact e this
    ((conv => whnf) <;> repeat (refine obl_ ?_; conv => whnf))
    refine past_inl hL hg n2 (by kernel_rfl) (fun hz => ?_) (fun z0 z1 _ => ?_)
    rotate_left
    · have hkn : knF s.pa m.seq = true := by
        unfold knF
        rw [← pastS_kn]
        exact decide_eq_true z0
      rw [stepS_2 ho' hkn]
      ((conv => whnf) <;> repeat (refine obl_ ?_; conv => whnf))
      exact .inl ⟨by decide, rfl⟩
    have hkn : ¬ knF s.pa m.seq = true := by
      unfold knF
      rw [← pastS_kn]
      simp
      omega
    ((conv => whnf) <;> repeat (refine obl_ ?_; conv => whnf))
    refine cond_ (fun h1 => ?_) (fun h1 => ?_)
    · have h1' := beq_iff_eq.1 h1
      ((conv => whnf) <;> repeat (refine obl_ ?_; conv => whnf))
      refine InlP.weak (ι := Unit) (fun _ => IT s m (moveS true s m)) (fun _ => True) (receive_inl hL hg hs hm n1 n2 rfl rfl rfl h1') (fun _ _ => ?_)
      ((conv => whnf) <;> repeat (refine obl_ ?_; conv => whnf))
      refine cond_ (fun he => ?_) (fun he => ?_)
      · have he' : (moveS true s m).1 ≠ 0 := bne_iff_ne.1 he
        rw [stepS_3 ho' hkn he']
        ((conv => whnf) <;> repeat (refine obl_ ?_; conv => whnf))
        exact .inl ⟨he', rfl⟩
      have he' : ¬ (moveS true s m).1 ≠ 0 := fun e => by
        have : ((moveS true s m).1 != 0) = false := he
        simp at this
        exact e this
      ((conv => whnf) <;> repeat (refine obl_ ?_; conv => whnf))
      refine over_inl (s := s) (m := m) (r := moveS true s m) hL hg (moveS_len n1) (by kernel_rfl) (fun bl hbl => ?_)
      rcases hbl with rfl | ⟨y, rfl⟩
      all_goals
        ((conv => whnf) <;> repeat (refine obl_ ?_; conv => whnf))
        refine cond_ (fun hv => ?_) (fun hv => ?_)
        · rw [stepS_4 ho' hkn he' hv]
          ((conv => whnf) <;> repeat (refine obl_ ?_; conv => whnf))
          exact .inl ⟨by decide, rfl⟩
        · rw [stepS_5 ho' hkn he' (by rw [hv]; decide)]
          ((conv => whnf) <;> repeat (refine obl_ ?_; conv => whnf))
          rw [moveS_seq]
          refine .inr ⟨rfl, _, _, ?_, rfl, rfl, rfl⟩
          decide
    ((conv => whnf) <;> repeat (refine obl_ ?_; conv => whnf))
    refine cond_ (fun h2 => ?_) (fun h2 => ?_)
    · have h2' := beq_iff_eq.1 h2
      ((conv => whnf) <;> repeat (refine obl_ ?_; conv => whnf))
      refine InlP.weak (ι := Unit) (fun _ => IT s m (moveS true s m)) (fun _ => True) (issue_inl hL hg hs hm n1 n2 rfl rfl rfl h2') (fun _ _ => ?_)
      ((conv => whnf) <;> repeat (refine obl_ ?_; conv => whnf))
      refine cond_ (fun he => ?_) (fun he => ?_)
      · have he' : (moveS true s m).1 ≠ 0 := bne_iff_ne.1 he
        rw [stepS_3 ho' hkn he']
        ((conv => whnf) <;> repeat (refine obl_ ?_; conv => whnf))
        exact .inl ⟨he', rfl⟩
      have he' : ¬ (moveS true s m).1 ≠ 0 := fun e => by
        have : ((moveS true s m).1 != 0) = false := he
        simp at this
        exact e this
      ((conv => whnf) <;> repeat (refine obl_ ?_; conv => whnf))
      refine over_inl (s := s) (m := m) (r := moveS true s m) hL hg (moveS_len n1) (by kernel_rfl) (fun bl hbl => ?_)
      rcases hbl with rfl | ⟨y, rfl⟩
      all_goals
        ((conv => whnf) <;> repeat (refine obl_ ?_; conv => whnf))
        refine cond_ (fun hv => ?_) (fun hv => ?_)
        · rw [stepS_4 ho' hkn he' hv]
          ((conv => whnf) <;> repeat (refine obl_ ?_; conv => whnf))
          exact .inl ⟨by decide, rfl⟩
        · rw [stepS_5 ho' hkn he' (by rw [hv]; decide)]
          ((conv => whnf) <;> repeat (refine obl_ ?_; conv => whnf))
          rw [moveS_seq]
          refine .inr ⟨rfl, _, _, ?_, rfl, rfl, rfl⟩
          decide
    ((conv => whnf) <;> repeat (refine obl_ ?_; conv => whnf))
    refine cond_ (fun h3 => ?_) (fun h3 => ?_)
    · have h3' := beq_iff_eq.1 h3
      have e2 := pastS_find (kind := 2) (seq := m.ref) (by decide) s.pa
      ((conv => whnf) <;> repeat (refine obl_ ?_; conv => whnf))
      refine InlP.weak (ι := Unit) (fun _ => IT s m (moveS true s m)) (fun _ => True) (back_inl hL hg hs hm n1 n2 rfl rfl rfl h3') (fun _ _ => ?_)
      ((conv => whnf) <;> repeat (refine obl_ ?_; conv => whnf))
      refine cond_ (fun he => ?_) (fun he => ?_)
      · have he' : (moveS true s m).1 ≠ 0 := bne_iff_ne.1 he
        rw [stepS_3 ho' hkn he']
        ((conv => whnf) <;> repeat (refine obl_ ?_; conv => whnf))
        exact .inl ⟨he', rfl⟩
      have he' : ¬ (moveS true s m).1 ≠ 0 := fun e => by
        have : ((moveS true s m).1 != 0) = false := he
        simp at this
        exact e this
      ((conv => whnf) <;> repeat (refine obl_ ?_; conv => whnf))
      refine over_inl (s := s) (m := m) (r := moveS true s m) hL hg (moveS_len n1) (by kernel_rfl) (fun bl hbl => ?_)
      rcases hbl with rfl | ⟨y, rfl⟩
      all_goals
        ((conv => whnf) <;> repeat (refine obl_ ?_; conv => whnf))
        refine cond_ (fun hv => ?_) (fun hv => ?_)
        · rw [stepS_4 ho' hkn he' hv]
          ((conv => whnf) <;> repeat (refine obl_ ?_; conv => whnf))
          exact .inl ⟨by decide, rfl⟩
        · rw [stepS_5 ho' hkn he' (by rw [hv]; decide)]
          ((conv => whnf) <;> repeat (refine obl_ ?_; conv => whnf))
          rw [moveS_seq]
          refine .inr ⟨rfl, _, _, ?_, rfl, rfl, rfl⟩
          decide
    ((conv => whnf) <;> repeat (refine obl_ ?_; conv => whnf))
    refine cond_ (fun h4 => ?_) (fun h4 => ?_)
    · have h4' := beq_iff_eq.1 h4
      have e1 := pastS_find (kind := 1) (seq := m.ref) (by decide) s.pa
      ((conv => whnf) <;> repeat (refine obl_ ?_; conv => whnf))
      refine InlP.weak (ι := Unit) (fun _ => IT s m (moveS true s m)) (fun _ => True) (send_inl hL hg hs hm n1 n2 rfl rfl rfl h4') (fun _ _ => ?_)
      ((conv => whnf) <;> repeat (refine obl_ ?_; conv => whnf))
      refine cond_ (fun he => ?_) (fun he => ?_)
      · have he' : (moveS true s m).1 ≠ 0 := bne_iff_ne.1 he
        rw [stepS_3 ho' hkn he']
        ((conv => whnf) <;> repeat (refine obl_ ?_; conv => whnf))
        exact .inl ⟨he', rfl⟩
      have he' : ¬ (moveS true s m).1 ≠ 0 := fun e => by
        have : ((moveS true s m).1 != 0) = false := he
        simp at this
        exact e this
      ((conv => whnf) <;> repeat (refine obl_ ?_; conv => whnf))
      refine over_inl (s := s) (m := m) (r := moveS true s m) hL hg (moveS_len n1) (by kernel_rfl) (fun bl hbl => ?_)
      rcases hbl with rfl | ⟨y, rfl⟩
      all_goals
        ((conv => whnf) <;> repeat (refine obl_ ?_; conv => whnf))
        refine cond_ (fun hv => ?_) (fun hv => ?_)
        · rw [stepS_4 ho' hkn he' hv]
          ((conv => whnf) <;> repeat (refine obl_ ?_; conv => whnf))
          exact .inl ⟨by decide, rfl⟩
        · rw [stepS_5 ho' hkn he' (by rw [hv]; decide)]
          ((conv => whnf) <;> repeat (refine obl_ ?_; conv => whnf))
          rw [moveS_seq]
          refine .inr ⟨rfl, _, _, ?_, rfl, rfl, rfl⟩
          decide
    ((conv => whnf) <;> repeat (refine obl_ ?_; conv => whnf))
    refine cond_ (fun h5 => ?_) (fun h5 => ?_)
    · have h5' := beq_iff_eq.1 h5
      have e1 := pastS_find (kind := 1) (seq := m.ref) (by decide) s.pa
      ((conv => whnf) <;> repeat (refine obl_ ?_; conv => whnf))
      refine InlP.weak (ι := Unit) (fun _ => IT s m (moveS true s m)) (fun _ => True) (land_inl hL hg hs hm n1 n2 rfl rfl rfl h5') (fun _ _ => ?_)
      ((conv => whnf) <;> repeat (refine obl_ ?_; conv => whnf))
      refine cond_ (fun he => ?_) (fun he => ?_)
      · have he' : (moveS true s m).1 ≠ 0 := bne_iff_ne.1 he
        rw [stepS_3 ho' hkn he']
        ((conv => whnf) <;> repeat (refine obl_ ?_; conv => whnf))
        exact .inl ⟨he', rfl⟩
      have he' : ¬ (moveS true s m).1 ≠ 0 := fun e => by
        have : ((moveS true s m).1 != 0) = false := he
        simp at this
        exact e this
      ((conv => whnf) <;> repeat (refine obl_ ?_; conv => whnf))
      refine over_inl (s := s) (m := m) (r := moveS true s m) hL hg (moveS_len n1) (by kernel_rfl) (fun bl hbl => ?_)
      rcases hbl with rfl | ⟨y, rfl⟩
      all_goals
        ((conv => whnf) <;> repeat (refine obl_ ?_; conv => whnf))
        refine cond_ (fun hv => ?_) (fun hv => ?_)
        · rw [stepS_4 ho' hkn he' hv]
          ((conv => whnf) <;> repeat (refine obl_ ?_; conv => whnf))
          exact .inl ⟨by decide, rfl⟩
        · rw [stepS_5 ho' hkn he' (by rw [hv]; decide)]
          ((conv => whnf) <;> repeat (refine obl_ ?_; conv => whnf))
          rw [moveS_seq]
          refine .inr ⟨rfl, _, _, ?_, rfl, rfl, rfl⟩
          decide
    ((conv => whnf) <;> repeat (refine obl_ ?_; conv => whnf))
    have ne : ∀ {n : Int}, (m.kind == n) = false → m.kind ≠ n := fun h e => by rw [e] at h; simp at h
    refine InlP.weak (ι := Unit) (fun _ => IT s m (moveS true s m)) (fun _ => True) (none_inl hL hg hs hm n1 n2 rfl rfl rfl (ne h1) (ne h2) (ne h3) (ne h4) (ne h5)) (fun _ _ => ?_)
    ((conv => whnf) <;> repeat (refine obl_ ?_; conv => whnf))
    refine cond_ (fun he => ?_) (fun he => ?_)
    · have he' : (moveS true s m).1 ≠ 0 := bne_iff_ne.1 he
      rw [stepS_3 ho' hkn he']
      ((conv => whnf) <;> repeat (refine obl_ ?_; conv => whnf))
      exact .inl ⟨he', rfl⟩
    have he' : ¬ (moveS true s m).1 ≠ 0 := fun e => by
      have : ((moveS true s m).1 != 0) = false := he
      simp at this
      exact e this
    ((conv => whnf) <;> repeat (refine obl_ ?_; conv => whnf))
    refine over_inl (s := s) (m := m) (r := moveS true s m) hL hg (moveS_len n1) (by kernel_rfl) (fun bl hbl => ?_)
    rcases hbl with rfl | ⟨y, rfl⟩
    all_goals
      ((conv => whnf) <;> repeat (refine obl_ ?_; conv => whnf))
      refine cond_ (fun hv => ?_) (fun hv => ?_)
      · rw [stepS_4 ho' hkn he' hv]
        ((conv => whnf) <;> repeat (refine obl_ ?_; conv => whnf))
        exact .inl ⟨by decide, rfl⟩
      · rw [stepS_5 ho' hkn he' (by rw [hv]; decide)]
        ((conv => whnf) <;> repeat (refine obl_ ?_; conv => whnf))
        rw [moveS_seq]
        refine .inr ⟨rfl, _, _, ?_, rfl, rfl, rfl⟩
        decide
  · rintro e w1 ⟨x, v, A1, ρ1, a1, rfl, hv, hk, hS1, _⟩
    exact stepW hS1 hv hk stepS_z
end Go.Proofs.YtclohjmakcfikaaDoor.Ff

/- A step as a callee; equal stocks; lists of movements. No condition but 64 bits. -/
namespace Go.Proofs.YtclohjmakcfikaaDoor.Ff
open Go.RowKit Go.Proofs.YtclohjmakcfikaaDoorW.PrintWords Go.Proofs.YtclohjmakcfikaaDoor.Ex
set_option linter.unusedVariables false
set_option linter.unusedSimpArgs false
set_option maxRecDepth 100000
/-- What a call of a step asks. -/
structure SmI (s : St) (m : Mv) : Prop where
  la : s.la.length < 400000000
  pa : s.pa.length < 1000000000
  item : m.item.size ≤ 140737488351232
  lot : m.lot.size ≤ 140737488351232
  si : StI s
  mi : MvI m
def stockA (s : St) (d : Nat) : AV := .agg [.v (.int .i64 s.q), .v (.int .i64 s.v), .v (.int .i64 s.pr), .row d, .row (d + 500)]
def stepM (r : Int × St × Co) (d : Nat) (k : AV → M) : M :=
  new2 d ⟨.la, r.2.1.la, true⟩ ⟨.pa, r.2.1.pa, true⟩ (k (.tup [(true, [.v (.int .i64 r.2.1.q), .v (.int .i64 r.2.1.v), .v (.int .i64 r.2.1.pr), .row d, .row (d + 500)]), (true, [.v (.int .i64 r.2.2.seq), .v (.int .i64 r.2.2.qty), .v (.int .i64 r.2.2.value), .v (.int .i64 r.2.2.var)]), (false, [.v (.int .i64 r.1)])]))
def spStep (P : St → Mv → Prop) (stp : St → Mv → Int × St × Co) : Sp := fun d args k => match args with
  | [.agg [.v (.int .i64 q), .v (.int .i64 v), .v (.int .i64 pr), x, y], .agg [.v (.int .i64 m1), .v (.int .i64 m2), .v (.string m3), .v (.int .i64 m4), .v (.int .i64 m5), .v (.int .i64 m6), .v (.string m7), .v (.int .i64 m8)]] =>
    rdRow .la x fun la => rdRow .pa y fun pa => .ob (P ⟨q, v, pr, la, pa⟩ ⟨m1, m2, m3, m4, m5, m6, m7, m8⟩) (stepM (stp ⟨q, v, pr, la, pa⟩ ⟨m1, m2, m3, m4, m5, m6, m7, m8⟩) d k)
  | _ => .fail
theorem step_ok' {g : G} {bs f : Nat} {P : St → Mv → Prop} {stp : St → Mv → Int × St × Co} (hfn : FnOk Tryd.prog f) (hc : ∀ ρ A a W, Rel g ρ A a W → ∀ (s : St) (m : Mv) LV PV, Src W LV .la s.la → Src W PV .pa s.pa → P s m → Calls Tryd.prog f #[.agg #[.int .i64 s.q, .int .i64 s.v, .int .i64 s.pr, LV, PV], .agg (mvC m).toArray] W fun e w1 => StepW W w1 (stp s m) e) : SpOk Tryd.prog g bs f (spStep P stp) := sp_new2 hfn (by
  intro d args k A r h hb
  unfold spStep at h hb
  split at h
  · rename_i q v pr x y m1 m2 m3 m4 m5 m6 m7 m8
    obtain ⟨la, h1, hb1, hl⟩ := rdRow_s h hb
    obtain ⟨pa, h2, hb2, hp⟩ := rdRow_s h1 hb1
    simp only [M.go] at h2
    simp only [M.obl] at hb2
    refine ⟨_, _, _, _, _, h2, hb2.2, fun ρ a0 w vs hR hv => ?_⟩
    match vs, hv with
    | [v1, v2], ⟨⟨us, e1, hu⟩, ⟨ws, e2, hw⟩, _⟩ =>
      match us, hu, ws, hw with
      | [u1, u2, u3, u4, u5], ⟨k1, k2, k3, k4, k5, _⟩, [w1, w2, w3, w4, w5, w6, w7, w8], ⟨j1, j2, j3, j4, j5, j6, j7, j8, _⟩ =>
        simp only [L.rel] at k1 k2 k3 j1 j2 j3 j4 j5 j6 j7 j8
        subst e1 e2 k1 k2 k3 j1 j2 j3 j4 j5 j6 j7 j8
        refine (hc ρ A a0 w hR ⟨q, v, pr, la, pa⟩ ⟨m1, m2, m3, m4, m5, m6, m7, m8⟩ u4 u5 (hl _ _ _ _ _ hR k4) (hp _ _ _ _ _ hR k5) hb2.1).mono ?_
        rintro e w1 ⟨V1, V2, rfl, o1, o2, a1, a2, hbel, _⟩
        exact ⟨_, V1, V2, rfl, fun ρ' r1 r2 => ⟨_, rfl, ⟨_, rfl, rfl, rfl, rfl, own_row o1 r1, own_row o2 r2, trivial⟩, ⟨_, rfl, rfl, rfl, rfl, rfl, trivial⟩, rfl, trivial⟩, o1, o2, a1, a2, hbel⟩
  · cases h)
/-! ### Equal stocks -/
theorem start4 {W : World} {V1 V2 V3 V4 : Value} {l1 l2 : List La} {p1 p2 : List Pa} (h1 : Src W V1 .la l1) (h2 : Src W V2 .pa p1) (h3 : Src W V3 .la l2) (h4 : Src W V4 .pa p2) :
    ∃ ρ : Env, ρ.r 0 = V1 ∧ ρ.r 1 = V2 ∧ ρ.r 2 = V3 ∧ ρ.r 3 = V4 ∧ Sat (gW W) ρ ⟨[], [], [(0, some ⟨.la, l1, false⟩), (1, some ⟨.pa, p1, false⟩), (2, some ⟨.la, l2, false⟩), (3, some ⟨.pa, p2, false⟩)]⟩ ⟨#[], []⟩ W := by
  have s1 := (Sat.base (gW W) env0).newRead (d := 0) rfl h1 (fun _ _ _ h => h)
  have s2 := s1.newRead (d := 1) rfl h2 (fun _ _ _ h => h)
  have s3 := s2.newRead (d := 2) rfl h3 (fun _ _ _ h => h)
  have s4 := s3.newRead (d := 3) rfl h4 (fun _ _ _ h => h)
  exact ⟨_, rfl, rfl, rfl, rfl, s4⟩
theorem ne_self {α : Type} [BEq α] [LawfulBEq α] {a : α} (h : (a != a) = true) : False := by simp at h
theorem strEq_self (a : ByteArray) : strEq a a = true := by unfold strEq; simp
theorem same_calls {W : World} {V1 V2 V3 V4 : Value} {ls : List La} {ps : List Pa} (h1 : Src W V1 .la ls) (h2 : Src W V2 .pa ps) (h3 : Src W V3 .la ls) (h4 : Src W V4 .pa ps) (q v pr : Int) :
    Calls Tryd.prog 12 #[.agg #[.int .i64 q, .int .i64 v, .int .i64 pr, V1, V2], .agg #[.int .i64 q, .int .i64 v, .int .i64 pr, V3, V4]] W fun e w1 => e = .returned (.bool true) ∧ Below W.heap.size W w1 := by
  obtain ⟨ρ, e1, e2, e3, e4, hS⟩ := start4 h1 h2 h3 h4
  have n1 : ls.length ≤ 9223372036854775807 := by obtain ⟨_, _, _, h, _⟩ := h1; exact h.2
  have n2 : ps.length ≤ 9223372036854775807 := by obtain ⟨_, _, _, h, _⟩ := h2; exact h.2
  refine (calls_awp (f := 12) (vs := [.agg #[.int .i64 q, .int .i64 v, .int .i64 pr, V1, V2], .agg #[.int .i64 q, .int .i64 v, .int .i64 pr, V3, V4]]) (cx_ok (C := []) (nt := 80) spc_nil) mixed_ok Tryd.func12 rfl rfl hS (avs := [.agg [.v (.int .i64 q), .v (.int .i64 v), .v (.int .i64 pr), .row 0, .row 1], .agg [.v (.int .i64 q), .v (.int .i64 v), .v (.int .i64 pr), .row 2, .row 3]])
    (fun ρ' h => ⟨⟨_, rfl, rfl, rfl, rfl, row_rel h (by simp [findR]) e1 h1, row_rel h (by simp [findR]) e2 h2, trivial⟩, ⟨_, rfl, rfl, rfl, rfl, row_rel h (by simp [findR]) e3 h3, row_rel h (by simp [findR]) e4 h4, trivial⟩, trivial⟩) (le_of_ble (by kernel_rfl)) (K := fun x A => x = .one (.v (.bool true))) ?_).mono ?_
  · ((conv => whnf) <;> repeat (refine obl_ ?_; conv => whnf))
    refine cond_ (fun h => (ne_self h).elim) (fun _ => ?_)
    ((conv => whnf) <;> repeat (refine obl_ ?_; conv => whnf))
    refine cond_ (fun h => (ne_self h).elim) (fun _ => ?_)
    ((conv => whnf) <;> repeat (refine obl_ ?_; conv => whnf))
    refine cond_ (fun h => (ne_self h).elim) (fun _ => ?_)
    ((conv => whnf) <;> repeat (refine obl_ ?_; conv => whnf))
    refine cond_ (fun h => (ne_self h).elim) (fun _ => ?_)
    ((conv => whnf) <;> repeat (refine obl_ ?_; conv => whnf))
    refine cond_ (fun h => (ne_self h).elim) (fun _ => ?_)
    ((conv => whnf) <;> repeat (refine obl_ ?_; conv => whnf))
    refine LoopP.introR (cx_ok spc_nil) mixed_ok (ι := Nat) (fun k => ⟨[(5, .one (.v (.int .i64 (k : Int)))), (3, .one (.ptr 13 0)), (2, .one (.ptr 12 0))], [(13, 26, [.v (.int .i64 q), .v (.int .i64 v), .v (.int .i64 pr), .row 2, .row 3]), (12, 26, [.v (.int .i64 q), .v (.int .i64 v), .v (.int .i64 pr), .row 0, .row 1])], [(0, some ⟨.la, ls, false⟩), (1, some ⟨.pa, ps, false⟩), (2, some ⟨.la, ls, false⟩), (3, some ⟨.pa, ps, false⟩)]⟩) (fun k => k ≤ ls.length) (fun k => ls.length - k) 0 (Nat.zero_le _) ⟨[], by (refine ⟨?_, ?_, ?_, by kernel_rfl⟩ <;> repeat' (first | exact trivial | exact rfl | assumption | apply And.intro))⟩ ?_
    intro k hk
    ((conv => whnf) <;> repeat (refine obl_ ?_; conv => whnf))
    refine cond_ (fun h => ?_) (fun h => ?_)
    · have hlt : k < ls.length := by have := of_decide_eq_true h; omega
      have i1 : 0 ≤ (k : Int) := by omega
      have i2 : (k : Int) < (ls.length : Int) := by omega
      ((conv => whnf) <;> repeat (refine obl_ ?_; conv => whnf))
      refine cond_ (fun h => absurd h (by simp [strEq_self])) (fun _ => ?_)
      ((conv => whnf) <;> repeat (refine obl_ ?_; conv => whnf))
      refine ⟨k + 1, hlt, by omega, [], ?_⟩
      (refine ⟨?_, ?_, ?_, by kernel_rfl⟩ <;> repeat' (first | exact trivial | exact rfl | assumption | apply And.intro))
      exact up_ (by omega)
    ((conv => whnf) <;> repeat (refine obl_ ?_; conv => whnf))
    refine LoopP.introR (cx_ok spc_nil) mixed_ok (ι := Nat) (fun k => ⟨[(6, .one (.v (.int .i64 (k : Int)))), (3, .one (.ptr 13 0)), (2, .one (.ptr 12 0))], [(13, 26, [.v (.int .i64 q), .v (.int .i64 v), .v (.int .i64 pr), .row 2, .row 3]), (12, 26, [.v (.int .i64 q), .v (.int .i64 v), .v (.int .i64 pr), .row 0, .row 1])], [(0, some ⟨.la, ls, false⟩), (1, some ⟨.pa, ps, false⟩), (2, some ⟨.la, ls, false⟩), (3, some ⟨.pa, ps, false⟩)]⟩) (fun k => k ≤ ps.length) (fun k => ps.length - k) 0 (Nat.zero_le _) ⟨[], by (refine ⟨?_, ?_, ?_, by kernel_rfl⟩ <;> repeat' (first | exact trivial | exact rfl | assumption | apply And.intro))⟩ ?_
    intro k hk
    ((conv => whnf) <;> repeat (refine obl_ ?_; conv => whnf))
    refine cond_ (fun h => ?_) (fun h => ?_)
    · have hlt : k < ps.length := by have := of_decide_eq_true h; omega
      have i1 : 0 ≤ (k : Int) := by omega
      have i2 : (k : Int) < (ps.length : Int) := by omega
      ((conv => whnf) <;> repeat (refine obl_ ?_; conv => whnf))
      refine cond_ (fun h => absurd h (by simp [strEq_self])) (fun _ => ?_)
      ((conv => whnf) <;> repeat (refine obl_ ?_; conv => whnf))
      refine ⟨k + 1, hlt, by omega, [], ?_⟩
      (refine ⟨?_, ?_, ?_, by kernel_rfl⟩ <;> repeat' (first | exact trivial | exact rfl | assumption | apply And.intro))
      exact up_ (by omega)
    ((conv => whnf) <;> repeat (refine obl_ ?_; conv => whnf))
    exact rfl
  · rintro e w1 ⟨x, v, A1, ρ1, a1, rfl, hv, rfl, hS1, _⟩
    exact ⟨by rw [show x = _ from hv], hS1.rel.bel⟩
def spSame : Sp := fun d args k => match args with
  | [.agg [.v (.int .i64 q), .v (.int .i64 v), .v (.int .i64 pr), x, y], .agg [.v (.int .i64 q'), .v (.int .i64 v'), .v (.int .i64 pr'), x', y']] =>
    rdRow .la x fun la => rdRow .pa y fun pa => rdRow .la x' fun la' => rdRow .pa y' fun pa' => .ob ((⟨q, v, pr, la, pa⟩ : St) = ⟨q', v', pr', la', pa'⟩) (k (.one (.v (.bool true))))
  | _ => .fail
theorem same_ok {g : G} {bs : Nat} : SpOk Tryd.prog g bs 12 spSame := sp_val ⟨_, Tryd.func12, by decide +kernel, rfl⟩ (by
  intro d args k A r h hb
  unfold spSame at h hb
  split at h
  · rename_i q v pr x y q' v' pr' x' y'
    obtain ⟨la, h1, hb1, hl⟩ := rdRow_s h hb
    obtain ⟨pa, h2, hb2, hp⟩ := rdRow_s h1 hb1
    obtain ⟨la', h3, hb3, hl'⟩ := rdRow_s h2 hb2
    obtain ⟨pa', h4, hb4, hp'⟩ := rdRow_s h3 hb3
    simp only [M.go] at h4
    simp only [M.obl] at hb4
    obtain ⟨he, hb5⟩ := hb4
    injection he with j1 j2 j3 j4 j5
    subst j1 j2 j3 j4 j5
    refine ⟨_, h4, hb5, fun ρ a0 w vs hR hv => ?_⟩
    match vs, hv with
    | [v1, v2], ⟨⟨us, e1, hu⟩, ⟨ws, e2, hw⟩, _⟩ =>
      match us, hu, ws, hw with
      | [u1, u2, u3, u4, u5], ⟨k1, k2, k3, k4, k5, _⟩, [w1, w2, w3, w4, w5], ⟨i1, i2, i3, i4, i5, _⟩ =>
        simp only [L.rel] at k1 k2 k3 i1 i2 i3
        subst e1 e2 k1 k2 k3 i1 i2 i3
        refine (same_calls (hl _ _ _ _ _ hR k4) (hp _ _ _ _ _ hR k5) (hl' _ _ _ _ _ hR i4) (hp' _ _ _ _ _ hR i5) _ _ _).mono ?_
        rintro e w1 ⟨rfl, hbel⟩
        exact ⟨_, rfl, fun ρ' => rfl, hbel⟩
  · cases h)
/-- A callee without arguments that answers true. -/
def spTrue : Sp := fun d args k => match args with
  | [] => k (.one (.v (.bool true)))
  | _ => .fail
theorem true_ok {g : G} {bs f : Nat} (hL : Laid g.W0) (hS : ∀ i, ¬ g.S i) (hfn : FnOk Tryd.prog f) (hc : ∀ W, Laid W → Calls Tryd.prog f #[] W fun e w1 => e = .returned (.bool true) ∧ Below W.heap.size W w1) : SpOk Tryd.prog g bs f spTrue := sp_val hfn (by
  intro d args k A r h hb
  unfold spTrue at h hb
  split at h
  · refine ⟨_, h, hb, fun ρ a0 w vs hR hv => ?_⟩
    match vs, hv with
    | [], _ =>
      refine (hc w (laid_of hL hS hR.kept.2)).mono ?_
      rintro e w1 ⟨rfl, hbel⟩
      exact ⟨_, rfl, fun ρ' => rfl, hbel⟩
  · cases h)
/-! ### Movements one after the other -/
def playF (stp : St → Mv → Int × St × Co) : List Mv → St → St
  | [], s => s
  | m :: r, s => playF stp r (if (stp s m).1 = 0 then (stp s m).2.1 else s)
theorem playF_drop {stp : St → Mv → Int × St × Co} {l : List Mv} {k : Nat} (h : k < l.length) (s : St) : playF stp (l.drop k) s = playF stp (l.drop (k + 1)) (if (stp s (l.getD k zMv)).1 = 0 then (stp s (l.getD k zMv)).2.1 else s) := by
  rw [List.drop_eq_getElem_cons h, List.getD_eq_getElem?_getD, List.getElem?_eq_getElem h]
  rfl
/-- What is told of a step: it keeps 64 bits, and the rows grow by one at most. -/
structure StepF (stp : St → Mv → Int × St × Co) : Prop where
  int : ∀ s m, StI s → MvI m → StI (stp s m).2.1
  la : ∀ s m, (stp s m).2.1.la.length ≤ s.la.length + 1
  pa : ∀ s m, (stp s m).2.1.pa.length ≤ s.pa.length + 1
/-- Movements as they come in. -/
def MvsI (l : List Mv) : Prop := ∀ m ∈ l, MvI m ∧ m.item.size ≤ 140737488351232 ∧ m.lot.size ≤ 140737488351232
theorem MvsI.sm {l : List Mv} (h : MvsI l) {k : Nat} (hk : k < l.length) {s : St} (hs : StI s) (h1 : s.la.length < 400000000) (h2 : s.pa.length < 1000000000) : SmI s (l.getD k zMv) := by
  have := h _ (getD_mem zMv hk)
  exact ⟨h1, h2, this.2.1, this.2.2, hs, this.1⟩
structure PlI (s : St) (k : Nat) : Prop where
  int : StI s
  la : s.la.length ≤ k
  pa : s.pa.length ≤ k
theorem PlI.next {stp : St → Mv → Int × St × Co} (F : StepF stp) {s : St} {k : Nat} (h : PlI s k) {m : Mv} (hm : MvI m) : PlI (if (stp s m).1 = 0 then (stp s m).2.1 else s) (k + 1) := by
  have h1 := F.la s m
  have h2 := F.pa s m
  have h3 := h.la
  have h4 := h.pa
  split
  · exact ⟨F.int s m h.int hm, by omega, by omega⟩
  · exact ⟨h.int, by omega, by omega⟩
theorem zSt_int : StI zSt := ⟨by simp [zSt, I64], by simp [zSt, I64], by simp [zSt], by simp [zSt]⟩
theorem zSt_pl : PlI zSt 0 := ⟨zSt_int, Nat.le_refl _, Nat.le_refl _⟩
theorem start1 {W : World} {V : Value} {l : List Mv} (h1 : Src W V .mv l) : ∃ ρ : Env, ρ.r 0 = V ∧ Sat (gW W) ρ ⟨[], [], [(0, some ⟨.mv, l, false⟩)]⟩ ⟨#[], []⟩ W :=
  ⟨_, rfl, (Sat.base (gW W) env0).newRead (d := 0) rfl h1 (fun _ _ _ h => h)⟩
end Go.Proofs.YtclohjmakcfikaaDoor.Ff

/- What a row's data say of a list of movements and of a movement. No condition. -/
namespace Go.Proofs.YtclohjmakcfikaaDoor.Ff
open Go.RowKit Go.ChangeShapes Go.WideShapes Go.ChangeMaps Go.Proofs.YtclohjmakcfikaaDoorW.PrintWords Go.Proofs.YtclohjmakcfikaaDoor.Ex
set_option linter.unusedVariables false
set_option linter.unusedSimpArgs false
/-- A movement as it comes in. -/
structure MvZ (m : Mv) : Prop where
  i : MvI m
  item : m.item.size ≤ 140737488351232
  lot : m.lot.size ≤ 140737488351232
theorem cellsMv : Tryd.prog.cellsOf 33 = 8 := by kernel_rfl
structure MvW (m : Mv) : Prop where
  i : MvI m
  w0 : (Lit.int .i64 m.seq).wf = true
  w1 : (Lit.int .i64 m.day).wf = true
  w2 : m.item.size ≤ maxLen
  w3 : (Lit.int .i64 m.kind).wf = true
  w4 : (Lit.int .i64 m.qty).wf = true
  w5 : (Lit.int .i64 m.cost).wf = true
  w6 : m.lot.size ≤ maxLen
  w7 : (Lit.int .i64 m.ref).wf = true
set_option maxRecDepth 100000 in
theorem open_move {H : Type} {enc : TypeId × Value → H} {W : World} {fuel : Nat} {cs : List Value} {y : DataW H × List MemPlace} (h : DataW.trod enc Tryd.prog W 0 (fun _ => true) true fuel 33 cs = some y) :
    ∃ m : Mv, cs = mvC m ∧ MvW m ∧ m.item.size ∈ y.1.weights Tryd.prog 33 ∧ m.lot.size ∈ y.1.weights Tryd.prog 33 := by
  obtain ⟨xs, n, _, rfl, hl, hlen, hf⟩ := DataW.trod_struct Tryd.underlying33 h
  rw [cellsMv] at hl
  match cs, hl with
  | [c0, c1, c2, c3, c4, c5, c6, c7], _ =>
  match xs, hlen with
  | [x0, x1, x2, x3, x4, x5, x6, x7], _ =>
  have z3 : Tryd.prog.cellsOf 3 = 1 := by kernel_rfl
  have z9 : Tryd.prog.cellsOf 9 = 1 := by kernel_rfl
  have f0 : DataW.trod enc Tryd.prog W 0 (fun _ => true) true n 3 [c0] = some x0 := by
    have h_ : DataW.trod enc Tryd.prog W 0 (fun _ => true) true n 3 (([c0, c1, c2, c3, c4, c5, c6, c7].drop 0).take (Tryd.prog.cellsOf 3)) = some x0 := hf 0 _ rfl
    rw [z3] at h_
    exact h_
  have f1 : DataW.trod enc Tryd.prog W 0 (fun _ => true) true n 3 [c1] = some x1 := by
    have h_ : DataW.trod enc Tryd.prog W 0 (fun _ => true) true n 3 (([c0, c1, c2, c3, c4, c5, c6, c7].drop 1).take (Tryd.prog.cellsOf 3)) = some x1 := hf 1 _ rfl
    rw [z3] at h_
    exact h_
  have f2 : DataW.trod enc Tryd.prog W 0 (fun _ => true) true n 9 [c2] = some x2 := by
    have h_ : DataW.trod enc Tryd.prog W 0 (fun _ => true) true n 9 (([c0, c1, c2, c3, c4, c5, c6, c7].drop 2).take (Tryd.prog.cellsOf 9)) = some x2 := hf 2 _ rfl
    rw [z9] at h_
    exact h_
  have f3 : DataW.trod enc Tryd.prog W 0 (fun _ => true) true n 3 [c3] = some x3 := by
    have h_ : DataW.trod enc Tryd.prog W 0 (fun _ => true) true n 3 (([c0, c1, c2, c3, c4, c5, c6, c7].drop 3).take (Tryd.prog.cellsOf 3)) = some x3 := hf 3 _ rfl
    rw [z3] at h_
    exact h_
  have f4 : DataW.trod enc Tryd.prog W 0 (fun _ => true) true n 3 [c4] = some x4 := by
    have h_ : DataW.trod enc Tryd.prog W 0 (fun _ => true) true n 3 (([c0, c1, c2, c3, c4, c5, c6, c7].drop 4).take (Tryd.prog.cellsOf 3)) = some x4 := hf 4 _ rfl
    rw [z3] at h_
    exact h_
  have f5 : DataW.trod enc Tryd.prog W 0 (fun _ => true) true n 3 [c5] = some x5 := by
    have h_ : DataW.trod enc Tryd.prog W 0 (fun _ => true) true n 3 (([c0, c1, c2, c3, c4, c5, c6, c7].drop 5).take (Tryd.prog.cellsOf 3)) = some x5 := hf 5 _ rfl
    rw [z3] at h_
    exact h_
  have f6 : DataW.trod enc Tryd.prog W 0 (fun _ => true) true n 9 [c6] = some x6 := by
    have h_ : DataW.trod enc Tryd.prog W 0 (fun _ => true) true n 9 (([c0, c1, c2, c3, c4, c5, c6, c7].drop 6).take (Tryd.prog.cellsOf 9)) = some x6 := hf 6 _ rfl
    rw [z9] at h_
    exact h_
  have f7 : DataW.trod enc Tryd.prog W 0 (fun _ => true) true n 3 [c7] = some x7 := by
    have h_ : DataW.trod enc Tryd.prog W 0 (fun _ => true) true n 3 (([c0, c1, c2, c3, c4, c5, c6, c7].drop 7).take (Tryd.prog.cellsOf 3)) = some x7 := hf 7 _ rfl
    rw [z3] at h_
    exact h_
  obtain ⟨v0, e0, rfl, w0⟩ := DataW.trod_int Tryd.underlying3 f0
  obtain ⟨v1, e1, rfl, w1⟩ := DataW.trod_int Tryd.underlying3 f1
  obtain ⟨v2, e2, rfl, w2⟩ := DataW.trod_string Tryd.underlying9 f2
  obtain ⟨v3, e3, rfl, w3⟩ := DataW.trod_int Tryd.underlying3 f3
  obtain ⟨v4, e4, rfl, w4⟩ := DataW.trod_int Tryd.underlying3 f4
  obtain ⟨v5, e5, rfl, w5⟩ := DataW.trod_int Tryd.underlying3 f5
  obtain ⟨v6, e6, rfl, w6⟩ := DataW.trod_string Tryd.underlying9 f6
  obtain ⟨v7, e7, rfl, w7⟩ := DataW.trod_int Tryd.underlying3 f7
  simp only [List.cons.injEq, and_true] at e0 e1 e2 e3 e4 e5 e6 e7
  subst e0 e1 e2 e3 e4 e5 e6 e7
  refine ⟨⟨v0, v1, v2, v3, v4, v5, v6, v7⟩, rfl, ⟨⟨bounds_i64 w0, bounds_i64 w3, bounds_i64 w4, bounds_i64 w5, bounds_i64 w7⟩, w0, w1, w2, w3, w4, w5, w6, w7⟩, ?_, ?_⟩
  · simp [DataW.weights, Tryd.underlying33, DataW.weightsEach]
  · simp [DataW.weights, Tryd.underlying33, DataW.weightsEach]
theorem weightsAll_mem {H : Type} {P : Program} {e : TypeId} : ∀ {ds : List (DataW H)} {d : DataW H}, d ∈ ds → ∀ n ∈ d.weights P e, n ∈ DataW.weightsAll P e ds
  | d0 :: ds, d, hd, n, hn => by
    rcases List.mem_cons.1 hd with rfl | hd
    · simp only [DataW.weightsAll, List.mem_append]
      exact .inl hn
    · simp only [DataW.weightsAll, List.mem_append]
      exact .inr (weightsAll_mem hd n hn)
theorem src_of {rk : RK} {W : World} {a : Addr} {cap : Nat} {ys : List rk.El} (hc : ys.length ≤ cap) (hm : ys.length ≤ 9223372036854775807) (hsz : 0 < rk.fk.sz) (h : ∀ i, i < ys.length → W.cells? 0 (a.add (i * rk.fk.sz)) rk.fk.sz = some (rk.fk.enc (ys.getD i rk.fk.dft))) : Src W (.slice (some a) ys.length cap) rk ys := by
  refine ⟨some a, cap, rfl, ⟨hc, hm⟩, fun e => (by cases e), fun b e j u hu => ?_⟩
  injection e with e
  subst e
  have hj : j < ys.length * rk.fk.sz := by
    have := (List.getElem?_eq_some_iff.1 hu).1
    rwa [cat_length rk.fk.hl] at this
  have hi : j / rk.fk.sz < ys.length := (Nat.div_lt_iff_lt_mul hsz).2 hj
  have hr : j % rk.fk.sz < rk.fk.sz := Nat.mod_lt _ hsz
  have hg := cat_get rk.fk.hl rk.fk.dft ys (j / rk.fk.sz) (j % rk.fk.sz) hi hr
  have e : j / rk.fk.sz * rk.fk.sz + j % rk.fk.sz = j := Nat.div_add_mod' j rk.fk.sz
  rw [e, hu] at hg
  have hcell := (World.cells?_some (h _ hi)).2.2 _ hr
  rw [← hg, Ex.add_add, e] at hcell
  exact hcell
theorem open_moves {H : Type} {enc : TypeId × Value → H} {W : World} {fuel : Nat} {cs : List Value} {x : DataW H × List MemPlace} (h : DataW.trod enc Tryd.prog W 0 (fun _ => true) true fuel 22 cs = some x) :
    ∃ (A : Option Addr) (cap : Nat) (l : List Mv), cs = [.slice A l.length cap] ∧ Src W (.slice A l.length cap) .mv l ∧ (∀ m ∈ l, MvW m) ∧ ∀ m ∈ l, m.item.size ∈ x.1.weights Tryd.prog 22 ∧ m.lot.size ∈ x.1.weights Tryd.prog 22 := by
  rcases DataW.trod_slice Tryd.underlying22 h with ⟨rfl, rfl⟩ | ⟨a, len, cap, elems, rest, n, _, rfl, rfl, hb, hl, hm, hlen, hel, hsp, hns⟩
  · exact ⟨none, 0, [], rfl, src_nil W .mv, fun m hm => absurd hm List.not_mem_nil, fun m hm => absurd hm List.not_mem_nil⟩
  rw [cellsMv] at hel
  have each : ∀ i : Fin len, ∃ m : Mv, W.cells? 0 (a.add (i.1 * 8)) 8 = some (mvC m) ∧ MvW m ∧ m.item.size ∈ (DataW.slice (elems.map (·.1)) (rest.map (·.1))).weights Tryd.prog 22 ∧ m.lot.size ∈ (DataW.slice (elems.map (·.1)) (rest.map (·.1))).weights Tryd.prog 22 := by
    intro i
    have hi := i.2
    have h1 := hel i.1 hi
    have hi2 : i.1 < elems.length := by omega
    rw [List.getElem?_eq_getElem hi2, Option.bind_eq_some_iff] at h1
    obtain ⟨cs', hcs, hy⟩ := h1
    obtain ⟨m, rfl, hw, hi1, hl1⟩ := open_move hy
    have hmem : elems[i.1].1 ∈ elems.map (·.1) := List.mem_map.2 ⟨_, List.getElem_mem hi2, rfl⟩
    refine ⟨m, hcs, hw, ?_, ?_⟩
    · simp only [DataW.weights, Tryd.underlying22, List.mem_cons, List.mem_append]
      exact .inr (.inl (weightsAll_mem hmem _ hi1))
    · simp only [DataW.weights, Tryd.underlying22, List.mem_cons, List.mem_append]
      exact .inr (.inl (weightsAll_mem hmem _ hl1))
  obtain ⟨f, hf⟩ := Classical.axiomOfChoice each
  have hof : ∀ m ∈ List.ofFn f, ∃ i, f i = m := fun m hm => by simpa [List.mem_ofFn] using hm
  refine ⟨some a, cap, List.ofFn f, by simp, ?_, ?_, ?_⟩
  · refine src_of (rk := .mv) (by simpa using hl) (by simp only [List.length_ofFn]; simp only [maxLen] at hm; omega) (by decide) (fun i hi => ?_)
    rw [List.length_ofFn] at hi
    have e : (List.ofFn f).getD i zMv = f ⟨i, hi⟩ := by rw [List.getD_eq_getElem?_getD, List.getElem?_eq_getElem (by simpa using hi)]; simp
    exact (hf ⟨i, hi⟩).1.trans (congrArg (fun m => some (mvC m)) e.symm)
  · intro m hm
    obtain ⟨i, rfl⟩ := hof m hm
    exact (hf i).2.1
  · intro m hm
    obtain ⟨i, rfl⟩ := hof m hm
    exact (hf i).2.2
end Go.Proofs.YtclohjmakcfikaaDoor.Ff

/- The steps of chapter 34 as callees; movements played; what is not used. No condition but 64 bits. -/
namespace Go.Proofs.YtclohjmakcfikaaDoor.Ff
open Go.RowKit Go.Proofs.YtclohjmakcfikaaDoorW.PrintWords Go.Proofs.YtclohjmakcfikaaDoor.Ex
set_option linter.unusedVariables false
set_option linter.unusedSimpArgs false
set_option maxRecDepth 100000
theorem oneM_le (m : Mv) : I64 (oneM m) := by
  unfold oneM Co.oneS I64
  repeat' split
  all_goals simp
theorem issueS_int : ∀ (la : List La) (q v : Int), (∀ x ∈ la, LaI x) → I64 v → (∀ x ∈ (issueS la q v).1, LaI x) ∧ I64 (issueS la q v).2
  | [], q, v, h, hv => ⟨fun x hx => (by cases hx), hv⟩
  | x :: r, q, v, h, hv => by
    have hr : ∀ y ∈ r, LaI y := fun y hy => h y (List.mem_cons_of_mem _ hy)
    simp only [issueS]
    split
    · split
      · exact issueS_int r _ _ hr (i64_wrap _)
      · refine ⟨fun y hy => ?_, i64_wrap _⟩
        rcases List.mem_cons.1 hy with rfl | hy
        · exact ⟨(h x List.mem_cons_self).1, i64_wrap _, i64_wrap _⟩
        · exact hr y hy
    · exact ⟨h, hv⟩
theorem set_all {α : Type} {p : α → Prop} {l : List α} (h : ∀ x ∈ l, p x) {i : Nat} {y : α} (hy : p y) : ∀ x ∈ l.set i y, p x := fun x hx => by
  rcases List.mem_or_eq_of_mem_set hx with h1 | rfl
  · exact h x h1
  · exact hy
theorem app_all {α : Type} {p : α → Prop} {l r : List α} (h : ∀ x ∈ l, p x) (k : ∀ x ∈ r, p x) : ∀ x ∈ l ++ r, p x := fun x hx => (List.mem_append.1 hx).elim (h x) (k x)
theorem one_all {α : Type} {p : α → Prop} {y : α} (h : p y) : ∀ x ∈ [y], p x := fun x hx => by rw [List.mem_singleton.1 hx]; exact h
theorem getD_all {α : Type} {p : α → Prop} {l : List α} (h : ∀ x ∈ l, p x) (i : Nat) {d : α} (hd : p d) : p (l.getD i d) := by
  by_cases hi : i < l.length
  · exact h _ (getD_mem d hi)
  · rw [List.getD_eq_getElem?_getD, List.getElem?_eq_none (by omega)]
    exact hd
theorem takeS_int {la : List La} (h : ∀ x ∈ la, LaI x) (i : Nat) (q : Int) : (∀ x ∈ (takeS la i q).1, LaI x) ∧ I64 (takeS la i q).2 := by
  have hx : LaI (la.getD i zLa) := getD_all h i (by simp [LaI, zLa, I64])
  unfold takeS
  simp only
  split
  · exact ⟨app_all (fun x hx => h x (List.mem_of_mem_take hx)) (fun x hx => h x (List.mem_of_mem_drop hx)), partS_i64 hx.2.2⟩
  · exact ⟨set_all h ⟨hx.1, i64_wrap _, i64_wrap _⟩, partS_i64 hx.2.2⟩
theorem zPa_i : PaI zPa := by simp [PaI, zPa, I64]
theorem zLa_i : LaI zLa := by simp [LaI, zLa, I64]
theorem i64_0 : I64 0 := by simp [I64]
theorem moveS_int {lc : Bool} {s : St} {m : Mv} (hs : StI s) (hm : MvI m) : (∀ x ∈ (moveS lc s m).2.2.1, LaI x) ∧ (∀ x ∈ (moveS lc s m).2.2.2, PaI x) := by
  have hP2 := getD_all hs.pa (findS 2 m.ref s.pa).toNat zPa_i
  have hP1 := getD_all hs.pa (findS 1 m.ref s.pa).toNat zPa_i
  have hX := getD_all hs.la (layerS m.ref s.la).toNat zLa_i
  obtain ⟨b1, b2, b3, b4, b5⟩ := hm
  have u := issueS_int s.la m.qty 0 hs.la i64_0
  have t := takeS_int hs.la (layerS m.ref s.la).toNat m.qty
  generalize hr : moveS lc s m = r
  unfold moveS at hr
  simp only at hr
  repeat' split at hr
  all_goals subst hr
  all_goals first
    | exact ⟨hs.la, hs.pa⟩
    | exact ⟨app_all hs.la (one_all ⟨b1, b3, b4⟩), app_all hs.pa (one_all ⟨b1, b2, b3, b4, i64_0, i64_0⟩)⟩
    | exact ⟨u.1, app_all hs.pa (one_all ⟨b1, b2, b3, u.2, i64_0, i64_0⟩)⟩
    | (refine ⟨app_all hs.la (one_all ?_), set_all hs.pa ?_⟩; exact ⟨b1, b3, partS_i64 (i64_wrap _)⟩; exact ⟨hP2.1, hP2.2.1, hP2.2.2.1, hP2.2.2.2.1, i64_wrap _, i64_wrap _⟩)
    | (refine ⟨t.1, set_all hs.pa ?_⟩; exact ⟨hP1.1, hP1.2.1, hP1.2.2.1, hP1.2.2.2.1, i64_wrap _, hP1.2.2.2.2.2⟩)
    | (refine ⟨set_all hs.la ?_, hs.pa⟩; exact ⟨hX.1, hX.2.1, i64_wrap _⟩)
theorem moveS_grow {lc : Bool} {s : St} {m : Mv} : (moveS lc s m).2.2.1.length ≤ s.la.length + 1 ∧ (moveS lc s m).2.2.2.length ≤ s.pa.length + 1 := by
  have h1 := issueS_len s.la m.qty 0
  unfold moveS
  simp only
  repeat' split
  all_goals first
    | (constructor <;> simp <;> omega)
    | skip
  unfold takeS
  simp only
  split
  · constructor
    · simp
      omega
    · simp
  · constructor <;> simp
theorem stepS_f {kn : List Pa → Int → Bool} {lc : Bool} : StepF (stepS kn lc) where
  int := fun s m hs hm => by
    unfold stepS
    simp only
    repeat' split
    all_goals first
      | exact zSt_int
      | exact ⟨i64_wrap _, i64_wrap _, (moveS_int hs hm).1, (moveS_int hs hm).2⟩
  la := fun s m => by
    unfold stepS
    simp only
    repeat' split
    all_goals first
      | exact Nat.zero_le _
      | exact moveS_grow.1
  pa := fun s m => by
    unfold stepS
    simp only
    repeat' split
    all_goals first
      | exact Nat.zero_le _
      | exact moveS_grow.2
/-- The two steps of the chapter. -/
def stpF : St → Mv → Int × St × Co := stepS knF true
def stpR : St → Mv → Int × St × Co := stepS knR false
theorem stpF_f : StepF stpF := stepS_f
theorem stpF_ok {g : G} {bs : Nat} (hL : Laid g.W0) (hS : ∀ i, ¬ g.S i) : SpOk Tryd.prog g bs 10 (spStep SmI stpF) := step_ok' ⟨_, Tryd.func10, by decide +kernel, rfl⟩ (fun ρ A a W hR s m LV PV h1 h2 h => fstep_calls (laid_of hL hS hR.kept.2) s m h1 h2 h.si h.mi h.la h.pa h.item h.lot)
end Go.Proofs.YtclohjmakcfikaaDoor.Ff

/- The law's own functions: movements played, a number that is not used, the chapter's examples. No condition but 64 bits. -/
namespace Go.Proofs.YtclohjmakcfikaaDoor.Ff
open Go.RowKit Go.Proofs.YtclohjmakcfikaaDoorW.PrintWords Go.Proofs.YtclohjmakcfikaaDoor.Ex
set_option linter.unusedVariables false
set_option linter.unusedSimpArgs false
set_option maxRecDepth 100000
def CP : List (Nat × Sp) := [(10, spStep SmI stpF)]
theorem cp_ok {g : G} {n : Nat} (hL : Laid g.W0) (hS : ∀ i, ¬ g.S i) : ∀ f sp, lookC CP f = some sp → SpOk Tryd.prog g n f sp := spc_cons (stpF_ok hL hS) spc_nil
def playS (l : List Mv) : St := playF stpF (l.take 60) zSt
theorem play_calls {W : World} {V : Value} {l : List Mv} (hL : Laid W) (h1 : Src W V .mv l) (hl : MvsI l) :
    Calls Tryd.prog 14 #[V] W fun e w1 => NewSt W w1 (playS l).q (playS l).v (playS l).pr (playS l).la (playS l).pa e := by
  obtain ⟨ρ, e1, hS⟩ := start1 h1
  have hg : ∀ i, ¬ (gW W).S i := fun i h => h
  have n1 : l.length ≤ 9223372036854775807 := by obtain ⟨_, _, _, h, _⟩ := h1; exact h.2
  refine (calls_awp (f := 14) (vs := [V]) (cx_ok (C := CP) (nt := 33) (cp_ok hL hg)) mixed_ok Tryd.func14 rfl rfl hS (avs := [.one (.row 0)])
    (fun ρ' h => ⟨row_rel h (by simp [findR]) e1 h1, trivial⟩) (le_of_ble (by kernel_rfl)) (K := fun x A => ∃ k1 k2, k1 ≠ k2 ∧ x = .agg [.v (.int .i64 (playS l).q), .v (.int .i64 (playS l).v), .v (.int .i64 (playS l).pr), .row k1, .row k2] ∧ findR A.rw k1 = some (some ⟨.la, (playS l).la, true⟩) ∧ findR A.rw k2 = some (some ⟨.pa, (playS l).pa, true⟩)) ?_).mono ?_
  · ((conv => whnf) <;> repeat (refine obl_ ?_; conv => whnf))
    refine LoopP.introR (cx_ok (cp_ok hL hg)) mixed_ok (ι := Nat × St) (fun k => ⟨[(4, .one (.v (.int .i64 (k.1 : Int)))), (3, .one (.ptr 13 0)), (2, .one (.ptr 12 0)), (0, .one (.row 0))], [(13, 26, [.v (.int .i64 k.2.q), .v (.int .i64 k.2.v), .v (.int .i64 k.2.pr), .row 5000, .row 5001]), (12, 26, [.v (.int .i64 0), .v (.int .i64 0), .v (.int .i64 0), .v (.slice none 0 0), .v (.slice none 0 0)])], [(0, some ⟨.mv, l, false⟩), (5000, some ⟨.la, k.2.la, true⟩), (5001, some ⟨.pa, k.2.pa, true⟩)]⟩) (fun k => k.1 ≤ (l.take 60).length ∧ playS l = playF stpF ((l.take 60).drop k.1) k.2 ∧ PlI k.2 k.1) (fun k => 60 - k.1) (0, zSt) ⟨Nat.zero_le _, rfl, zSt_pl⟩ ⟨[(5000, none), (5001, none)], by (refine ⟨?_, ?_, ?_, by kernel_rfl⟩ <;> repeat' (first | exact trivial | exact rfl | assumption | apply And.intro))⟩ ?_
    rintro ⟨k, s⟩ ⟨hk, hp, hs⟩
    simp only at hk hp hs
    have hk' : k ≤ 60 ∧ k ≤ l.length := by simp at hk; omega
    ((conv => whnf) <;> repeat (refine obl_ ?_; conv => whnf))
    refine cond_ (fun h => ?_) (fun h => ?_)
    · have hlt := of_decide_eq_true h
      have i1 : 0 ≤ (k : Int) := by omega
      ((conv => whnf) <;> repeat (refine obl_ ?_; conv => whnf))
      refine cond_ (fun h2 => ?_) (fun h2 => ?_)
      · have hlt2 := of_decide_eq_true h2
        have hk2 : k < (l.take 60).length := by simp; omega
        have hkl : k < l.length := by omega
        have hsm : SmI s (l.getD k zMv) := hl.sm hkl hs.int (by have := hs.la; omega) (by have := hs.pa; omega)
        have hp2 := hp.trans (playF_drop hk2 s)
        have hs2 := hs.next stpF_f hsm.mi
        rw [show (l.take 60).getD k zMv = l.getD k zMv from by rw [List.getD_eq_getElem?_getD, List.getElem?_take_of_lt (by omega), ← List.getD_eq_getElem?_getD]] at hp2
        ((conv => whnf) <;> repeat (refine obl_ ?_; conv => whnf))
        refine cond_ (fun h3 => ?_) (fun h3 => ?_)
        · have h3' : (stpF s (l.getD k zMv)).1 = 0 := beq_iff_eq.1 h3
          rw [if_pos h3'] at hp2 hs2
          ((conv => whnf) <;> repeat (refine obl_ ?_; conv => whnf))
          refine ⟨(k + 1, (stpF s (l.getD k zMv)).2.1), ⟨hk2, hp2, hs2⟩, by omega, [(5000, some 35), (5001, some 535)], ?_⟩
          (refine ⟨?_, ?_, ?_, by kernel_rfl⟩ <;> repeat' (first | exact trivial | exact rfl | assumption | apply And.intro))
          exact up_ (by omega)
        · have h3' : ¬ (stpF s (l.getD k zMv)).1 = 0 := fun e => beq_ne h3 e
          rw [if_neg h3'] at hp2 hs2
          ((conv => whnf) <;> repeat (refine obl_ ?_; conv => whnf))
          refine ⟨(k + 1, s), ⟨hk2, hp2, hs2⟩, by omega, [], ?_⟩
          (refine ⟨?_, ?_, ?_, by kernel_rfl⟩ <;> repeat' (first | exact trivial | exact rfl | assumption | apply And.intro))
          exact up_ (by omega)
      · have hge := of_decide_eq_false h2
        have e : (l.take 60).drop k = [] := List.drop_eq_nil_of_le (by simp; omega)
        rw [e] at hp
        rw [show playS l = s from hp]
        ((conv => whnf) <;> repeat (refine obl_ ?_; conv => whnf))
        refine ⟨_, _, ?_, rfl, rfl, rfl⟩
        decide
    · have hge := of_decide_eq_false h
      have e : (l.take 60).drop k = [] := List.drop_eq_nil_of_le (by simp; omega)
      rw [e] at hp
      rw [show playS l = s from hp]
      ((conv => whnf) <;> repeat (refine obl_ ?_; conv => whnf))
      refine ⟨_, _, ?_, rfl, rfl, rfl⟩
      decide
  · rintro e w1 ⟨x, u, A1, ρ1, a1, rfl, hv, ⟨k1, k2, hne, e, f1, f2⟩, hS1, _⟩
    exact newSt hS1 hv e f1 f2 hne
def spPlay : Sp := fun d args k => match args with
  | [.one x] => rdRow .mv x fun l => .ob (MvsI l) (new2 d ⟨.la, (playS l).la, true⟩ ⟨.pa, (playS l).pa, true⟩ (k (.agg [.v (.int .i64 (playS l).q), .v (.int .i64 (playS l).v), .v (.int .i64 (playS l).pr), .row d, .row (d + 500)])))
  | _ => .fail
theorem play_ok {g : G} {bs : Nat} (hL : Laid g.W0) (hS : ∀ i, ¬ g.S i) : SpOk Tryd.prog g bs 14 spPlay := sp_new2 ⟨_, Tryd.func14, by decide +kernel, rfl⟩ (by
  intro d args k A r h hb
  unfold spPlay at h hb
  split at h
  · rename_i x
    obtain ⟨l, h1, hb1, hl⟩ := rdRow_s h hb
    simp only [M.go] at h1
    simp only [M.obl] at hb1
    refine ⟨_, _, _, _, _, h1, hb1.2, fun ρ a0 w vs hR hv => ?_⟩
    match vs, hv with
    | [v1], ⟨k1, _⟩ =>
      refine (play_calls (laid_of hL hS hR.kept.2) (hl _ _ _ _ _ hR k1) hb1.1).mono ?_
      rintro e w1 ⟨V1, V2, rfl, o1, o2, a1, a2, hbel⟩
      exact ⟨_, V1, V2, rfl, fun ρ' r1 r2 => ⟨_, rfl, rfl, rfl, rfl, own_row o1 r1, own_row o2 r2, trivial⟩, o1, o2, a1, a2, hbel⟩
  · cases h)
/-! ### a number that is not used -/
def unuF (pa : List Pa) : Nat → Nat → Int
  | n, 0 => n
  | n, f + 1 => if knR pa n = true then unuF pa (n + 1) f else n
def unusedS (pa : List Pa) : Int := unuF pa 1 pa.length
def CU : List (Nat × Sp) := [(49, spFind)]
theorem cu_ok {g : G} {n : Nat} : ∀ f sp, lookC CU f = some sp → SpOk Tryd.prog g n f sp := spc_cons find_ok spc_nil
theorem unused_calls {W : World} {LV PV : Value} {ls : List La} {ps : List Pa} (h1 : Src W LV .la ls) (h2 : Src W PV .pa ps) (q v pr : Int) (hlen : ps.length ≤ 1000000000) :
    Calls Tryd.prog 15 #[.agg #[.int .i64 q, .int .i64 v, .int .i64 pr, LV, PV]] W fun e w1 => e = .returned (.int .i64 (unusedS ps)) ∧ Below W.heap.size W w1 := by
  obtain ⟨ρ, e1, e2, hS⟩ := start2 h1 h2
  refine (calls_awp (f := 15) (vs := [.agg #[.int .i64 q, .int .i64 v, .int .i64 pr, LV, PV]]) (cx_ok (C := CU) (nt := 20) cu_ok) mixed_ok Tryd.func15 rfl rfl hS (avs := [.agg [.v (.int .i64 q), .v (.int .i64 v), .v (.int .i64 pr), .row 0, .row 1]])
    (fun ρ' h => ⟨⟨_, rfl, rfl, rfl, rfl, row_rel h (by simp [findR]) e1 h1, row_rel h (by simp [findR]) e2 h2, trivial⟩, trivial⟩) (le_of_ble (by kernel_rfl)) (K := fun x A => x = .one (.v (.int .i64 (unusedS ps)))) ?_).mono ?_
  · ((conv => whnf) <;> repeat (refine obl_ ?_; conv => whnf))
    refine LoopP.introR (cx_ok cu_ok) mixed_ok (ι := Nat) (fun k => ⟨[(3, .one (.v (.int .i64 ((k + 1 : Nat) : Int)))), (2, .one (.v (.int .i64 0))), (1, .one (.ptr 11 0))], [(11, 26, [.v (.int .i64 q), .v (.int .i64 v), .v (.int .i64 pr), .row 0, .row 1])], [(0, some ⟨.la, ls, false⟩), (1, some ⟨.pa, ps, false⟩)]⟩) (fun k => k ≤ ps.length ∧ unusedS ps = unuF ps (k + 1) (ps.length - k)) (fun k => ps.length - k) 0 ⟨Nat.zero_le _, rfl⟩ ⟨[], by (refine ⟨?_, ?_, ?_, by kernel_rfl⟩ <;> repeat' (first | exact trivial | exact rfl | assumption | apply And.intro))⟩ ?_
    rintro k ⟨hk, hu⟩
    ((conv => whnf) <;> repeat (refine obl_ ?_; conv => whnf))
    refine cond_ (fun h => ?_) (fun h => ?_)
    · have hlt := of_decide_eq_true h
      have hlt' : k < ps.length := by omega
      rw [show ps.length - k = (ps.length - (k + 1)) + 1 from by omega] at hu
      unfold unuF at hu
      ((conv => whnf) <;> repeat (refine obl_ ?_; conv => whnf))
      refine InlP.intro (X' := ⟨tab, CU, 1000, 15⟩) ⟨tab_ok, elt_ok, cu_ok⟩ mixed_ok Tryd.func28 (by kernel_rfl) rfl rfl (le_of_ble (by kernel_rfl)) (by kernel_rfl) ?_
      ((conv => whnf) <;> repeat (refine obl_ ?_; conv => whnf))
      refine cond_ (fun hx => ?_) (fun hx => ?_)
      · have hx' : decide (0 ≤ findS 1 ((k + 1 : Nat) : Int) ps) = true := hx
        have hkn : knR ps ((k + 1 : Nat) : Int) = true := by unfold knR; rw [hx']; rfl
        rw [if_pos hkn] at hu
        ((conv => whnf) <;> repeat (refine obl_ ?_; conv => whnf))
        refine ⟨k + 1, ⟨hlt', hu⟩, by omega, [], ?_⟩
        (refine ⟨?_, ?_, ?_, by kernel_rfl⟩ <;> repeat' (first | exact trivial | exact rfl | assumption | apply And.intro))
        exact up_ (k := k + 1) (by omega)
      · have hx' : decide (0 ≤ findS 1 ((k + 1 : Nat) : Int) ps) = false := hx
        ((conv => whnf) <;> repeat (refine obl_ ?_; conv => whnf))
        refine cond_ (fun hy => ?_) (fun hy => ?_)
        · have hy' : (!decide (0 ≤ findS 2 ((k + 1 : Nat) : Int) ps)) = true := hy
          have hkn : ¬ knR ps ((k + 1 : Nat) : Int) = true := by unfold knR; rw [hx']; simpa using hy'
          rw [if_neg hkn] at hu
          ((conv => whnf) <;> repeat (refine obl_ ?_; conv => whnf))
          exact int_ hu.symm
        · have hy' : (!decide (0 ≤ findS 2 ((k + 1 : Nat) : Int) ps)) = false := hy
          have hkn : knR ps ((k + 1 : Nat) : Int) = true := by unfold knR; rw [hx']; simpa using hy'
          rw [if_pos hkn] at hu
          ((conv => whnf) <;> repeat (refine obl_ ?_; conv => whnf))
          refine ⟨k + 1, ⟨hlt', hu⟩, by omega, [], ?_⟩
          (refine ⟨?_, ?_, ?_, by kernel_rfl⟩ <;> repeat' (first | exact trivial | exact rfl | assumption | apply And.intro))
          exact up_ (k := k + 1) (by omega)
    · have hge := of_decide_eq_false h
      rw [show ps.length - k = 0 from by omega] at hu
      unfold unuF at hu
      ((conv => whnf) <;> repeat (refine obl_ ?_; conv => whnf))
      exact int_ (by rw [hu, wrap_succ (by omega)]; omega)
  · rintro e w1 ⟨x, v, A1, ρ1, a1, rfl, hv, rfl, hS1, _⟩
    exact ⟨by rw [show x = _ from hv], hS1.rel.bel⟩
end Go.Proofs.YtclohjmakcfikaaDoor.Ff

/- The chapter's examples hold. No condition. -/
namespace Go.Proofs.YtclohjmakcfikaaDoor.Ff
open Go.RowKit Go.Proofs.YtclohjmakcfikaaDoorW.PrintWords Go.Proofs.YtclohjmakcfikaaDoor.Ex
set_option linter.unusedVariables false
set_option linter.unusedSimpArgs false
set_option maxRecDepth 100000
def e0 : ByteArray := ⟨#[]⟩
def xMv (seq kind qty cost ref : Int) : Mv := ⟨seq, 0, ⟨#[120]⟩, kind, qty, cost, ⟨#[]⟩, ref⟩
def lv1 : St := ⟨4, 10, 0, [⟨1, ⟨#[]⟩, 4, 10⟩], [⟨1, 1, ⟨#[]⟩, 4, 10, 0, 0⟩]⟩
def lv2 : St := ⟨6, 18, 0, [⟨1, ⟨#[]⟩, 4, 10⟩, ⟨2, ⟨#[]⟩, 2, 8⟩], [⟨1, 1, ⟨#[]⟩, 4, 10, 0, 0⟩, ⟨2, 1, ⟨#[]⟩, 2, 8, 0, 0⟩]⟩
def lv3 : St := ⟨1, 4, 0, [⟨2, ⟨#[]⟩, 1, 4⟩], [⟨1, 1, ⟨#[]⟩, 4, 10, 0, 0⟩, ⟨2, 1, ⟨#[]⟩, 2, 8, 0, 0⟩, ⟨3, 2, ⟨#[]⟩, 5, 14, 0, 0⟩]⟩
def lv4 : St := ⟨3, 10, 0, [⟨2, ⟨#[]⟩, 1, 4⟩, ⟨4, ⟨#[]⟩, 2, 6⟩], [⟨1, 1, ⟨#[]⟩, 4, 10, 0, 0⟩, ⟨2, 1, ⟨#[]⟩, 2, 8, 0, 0⟩, ⟨3, 2, ⟨#[]⟩, 5, 14, 2, 6⟩]⟩
theorem live1 : stpF zSt (xMv 1 1 4 10 0) = (0, lv1, ⟨1, 4, 10, 0⟩) := by kernel_rfl
theorem live2 : stpF lv1 (xMv 2 1 2 8 0) = (0, lv2, ⟨2, 2, 8, 0⟩) := by kernel_rfl
theorem live3 : stpF lv2 (xMv 3 2 5 0 0) = (0, lv3, ⟨3, -5, -14, 0⟩) := by kernel_rfl
theorem live4 : stpF lv3 (xMv 4 3 2 0 3) = (0, lv4, ⟨4, 2, 6, 0⟩) := by kernel_rfl
theorem lives_calls {W : World} (hL : Laid W) : Calls Tryd.prog 13 #[] W fun e w1 => e = .returned (.bool true) ∧ Below W.heap.size W w1 := by
  have hg : ∀ i, ¬ (gW W).S i := fun i h => h
  have c1 : SmI zSt (xMv 1 1 4 10 0) := ⟨by simp [zSt], by simp [zSt], by decide, by decide, zSt_int, by constructor <;> simp [xMv, I64]⟩
  have c2 : SmI lv1 (xMv 2 1 2 8 0) := ⟨by simp [lv1], by simp [lv1], by decide, by decide, by constructor <;> simp [lv1, I64, LaI, PaI], by constructor <;> simp [xMv, I64]⟩
  have c3 : SmI lv2 (xMv 3 2 5 0 0) := ⟨by simp [lv2], by simp [lv2], by decide, by decide, by constructor <;> simp [lv2, I64, LaI, PaI], by constructor <;> simp [xMv, I64]⟩
  have c4 : SmI lv3 (xMv 4 3 2 0 3) := ⟨by simp [lv3], by simp [lv3], by decide, by decide, by constructor <;> simp [lv3, I64, LaI, PaI], by constructor <;> simp [xMv, I64]⟩
  refine (calls_awp (f := 13) (vs := []) (cx_ok (C := CP) (nt := 89) (cp_ok hL hg)) mixed_ok Tryd.func13 rfl rfl (start0 W) (avs := []) (fun _ _ => trivial) (le_of_ble (by kernel_rfl)) (K := fun x A => x = .one (.v (.bool true))) ?_).mono ?_
  · ((conv => whnf) <;> repeat (refine obl_ ?_; conv => whnf))
    kernel_rfl
  · rintro e w1 ⟨x, v, A1, ρ1, a1, rfl, hv, rfl, hS1, _⟩
    exact ⟨by rw [show x = _ from hv], hS1.rel.bel⟩
end Go.Proofs.YtclohjmakcfikaaDoor.Ff

/- Chapter 34, the plain law of a step: the sums, what stays in order. No program in sight. No condition. -/
namespace Go.Proofs.YtclohjmakcfikaaDoor.Ff
open Go.RowKit Go.Proofs.YtclohjmakcfikaaDoorW.PrintWords Go.Proofs.YtclohjmakcfikaaDoor.Ex
set_option linter.unusedVariables false
set_option linter.unusedSimpArgs false
theorem md_pos {v n o : Int} (hv : 0 ≤ v) (hV : v ≤ 9223372036854775807) (hn : 0 ≤ n) (hno : n ≤ o) (ho : 0 < o) :
    0 ≤ (Md.md v n o 4).1 ∧ (Md.md v n o 4).1 ≤ v ∧ 2 * ((Md.md v n o 4).1 * o) ≤ 2 * (v * n) + o ∧ 2 * (v * n) ≤ 2 * ((Md.md v n o 4).1 * o) + o := by
  have hP : ((v.natAbs : Int) * n.natAbs) = v * n := by rw [Int.natAbs_of_nonneg hv, Int.natAbs_of_nonneg hn]
  have ho' : (o.natAbs : Int) = o := Int.natAbs_of_nonneg (by omega)
  have d1 : decide (v < 0) = false := decide_eq_false (by omega)
  have d2 : decide (n < 0) = false := decide_eq_false (by omega)
  have d3 : decide (o < 0) = false := decide_eq_false (by omega)
  have hle : v * n ≤ v * o := Int.mul_le_mul_of_nonneg_left hno hv
  have h0 : 0 ≤ v * n := Int.mul_nonneg hv hn
  have e : (v * n) / o * o + (v * n) % o = v * n := Int.ediv_mul_add_emod (v * n) o
  have r0 : 0 ≤ (v * n) % o := Int.emod_nonneg _ (by omega)
  have r1 : (v * n) % o < o := Int.emod_lt_of_pos _ ho
  have q0 : 0 ≤ (v * n) / o := Int.ediv_nonneg h0 (by omega)
  unfold Md.md
  rw [if_neg (by omega), if_neg (by omega)]
  simp only [hP, ho', d1, d2, d3]
  generalize v * n / o = q at *
  generalize v * n % o = r at *
  generalize v * n = P at *
  have hqv : q ≤ v := by
    apply Int.le_of_mul_le_mul_right (a := o) _ ho
    omega
  have hq1 : 0 < r → q + 1 ≤ v := fun hr => by
    have : q < v := by
      apply Int.lt_of_mul_lt_mul_right (a := o) _ (by omega)
      omega
    omega
  have ex : (q + 1) * o = q * o + o := by rw [Int.add_mul]; omega
  have hs' : ∀ s : Int, s ≤ v → (Md.sg (decide (P ≠ 0) && ((false != false) != false)) s).1 = s := fun s hs => by
    simp [Md.sg]; rw [if_neg (by omega)]
  by_cases ha : Md.away 4 (decide (P ≠ 0) && ((false != false) != false)) (decide (q % 2 = 1)) r o = true
  · rw [if_pos ha]
    have hr : r ≠ 0 := fun h => by rw [h] at ha; simp [Md.away] at ha
    rw [hs' _ (hq1 (by omega)), ex]
    have h2 : o - r ≤ r := by
      unfold Md.away at ha
      rw [if_neg hr, if_neg (by omega), if_neg (by omega), if_pos rfl] at ha
      simp at ha
      omega
    have := hq1 (by omega)
    omega
  · rw [if_neg ha, hs' _ hqv]
    have h2 : r = 0 ∨ r ≤ o - r := by
      by_cases hr : r = 0
      · exact .inl hr
      · unfold Md.away at ha
        rw [if_neg hr, if_neg (by omega), if_neg (by omega), if_pos rfl] at ha
        simp at ha
        omega
    omega
theorem part_pos {v n o : Int} (hv : 0 ≤ v) (hV : v ≤ 9223372036854775807) (hn : 0 ≤ n) (hno : n ≤ o) (ho : 0 < o) :
    0 ≤ partS v n o ∧ partS v n o ≤ v ∧ 2 * (partS v n o * o) ≤ 2 * (v * n) + o ∧ 2 * (v * n) ≤ 2 * (partS v n o * o) + o := by
  unfold partS
  by_cases h : n = o
  · rw [if_pos h, h]; omega
  · rw [if_neg h]; exact md_pos hv hV hn hno ho

theorem part_le {v n o : Int} (hv : 0 ≤ v) (hV : v ≤ 9223372036854775807) (hn : 0 ≤ n) (hno : n ≤ o) (ho : 0 < o) : 0 ≤ partS v n o ∧ partS v n o ≤ v := ⟨(part_pos hv hV hn hno ho).1, (part_pos hv hV hn hno ho).2.1⟩
theorem part_all (v o : Int) : partS v o o = v := if_pos rfl
/-! ### sums -/
def sumF (f : La → Int) : List La → Int
  | [] => 0
  | x :: r => f x + sumF f r
theorem sumF_app (f : La → Int) : ∀ (l r : List La), sumF f (l ++ r) = sumF f l + sumF f r
  | [], r => by simp [sumF]
  | x :: l, r => by simp only [List.cons_append, sumF, sumF_app f l r]; omega
theorem sumF_set (f : La → Int) : ∀ (l : List La) (i : Nat) (y : La), i < l.length → sumF f (l.set i y) = sumF f l - f (l.getD i zLa) + f y
  | x :: l, 0, y, _ => by simp [sumF]; omega
  | x :: l, i + 1, y, h => by
    have := sumF_set f l i y (by simpa using h)
    simp only [List.set_cons_succ, sumF, this, List.getD_cons_succ]
    omega
  | [], i, y, h => by simp at h
theorem sumF_rm (f : La → Int) : ∀ (l : List La) (i : Nat), i < l.length → sumF f (l.take i ++ l.drop (i + 1)) = sumF f l - f (l.getD i zLa)
  | x :: l, 0, _ => by simp [sumF]; omega
  | x :: l, i + 1, h => by
    have := sumF_rm f l i (by simpa using h)
    simp only [List.take_succ_cons, List.drop_succ_cons, List.cons_append, sumF, this, List.getD_cons_succ]
    omega
  | [], i, h => by simp at h
theorem sumF_nn {f : La → Int} : ∀ {l : List La}, (∀ x ∈ l, 0 ≤ f x) → 0 ≤ sumF f l
  | [], _ => Int.le_refl _
  | x :: l, h => by
    have h1 := h x List.mem_cons_self
    have h2 := sumF_nn (l := l) (fun y hy => h y (List.mem_cons_of_mem _ hy))
    simp only [sumF]
    omega
theorem sumF_mem {f : La → Int} : ∀ {l : List La}, (∀ x ∈ l, 0 ≤ f x) → ∀ x ∈ l, f x ≤ sumF f l
  | y :: l, h, x, hx => by
    have h1 := h y List.mem_cons_self
    have h2 : ∀ z ∈ l, 0 ≤ f z := fun z hz => h z (List.mem_cons_of_mem _ hz)
    simp only [sumF]
    rcases List.mem_cons.1 hx with rfl | hx
    · have := sumF_nn h2
      omega
    · have := sumF_mem h2 x hx
      omega
  | [], _, x, hx => by cases hx
theorem sumF_take {f : La → Int} {l : List La} (h : ∀ x ∈ l, 0 ≤ f x) (k : Nat) : 0 ≤ sumF f (l.take k) ∧ sumF f (l.take k) ≤ sumF f l := by
  have h1 := sumF_app f (l.take k) (l.drop k)
  rw [List.take_append_drop] at h1
  have h2 := sumF_nn (l := l.take k) (fun x hx => h x (List.mem_of_mem_take hx))
  have h3 := sumF_nn (l := l.drop k) (fun x hx => h x (List.mem_of_mem_drop hx))
  omega
theorem sumF_step {f : La → Int} {l : List La} {k : Nat} (h : k < l.length) : sumF f (l.take (k + 1)) = sumF f (l.take k) + f (l.getD k zLa) := by
  have e : l.take (k + 1) = l.take k ++ [l.getD k zLa] := by
    rw [List.take_add_one, List.getElem?_eq_getElem h, List.getD_eq_getElem?_getD, List.getElem?_eq_getElem h]
    rfl
  rw [e, sumF_app]
  simp [sumF]
abbrev sumQ (l : List La) : Int := sumF La.qty l
abbrev sumV (l : List La) : Int := sumF La.value l
/-! ### what stays in order -/
/-- What is kept of a receipt or an issue. -/
structure PaOk (p : Pa) : Prop where
  kind : p.kind = 1 ∨ p.kind = 2
  q0 : 1 ≤ p.qty
  q1 : p.qty ≤ 1000000000
  u0 : 0 ≤ p.used
  u1 : p.used ≤ p.qty
  w0 : 0 ≤ p.uval
  w1 : p.uval ≤ p.value
  v1 : p.value ≤ 1000000000000000
structure Pos (x : La) : Prop where
  q : 1 ≤ x.qty
  v : 0 ≤ x.value
structure Inv (s : St) : Prop where
  pa : ∀ p ∈ s.pa, PaOk p
  la : ∀ x ∈ s.la, Pos x
  q : s.q = sumQ s.la
  q1 : s.q ≤ 1000000000
  v : s.v = sumV s.la
  v1 : s.v ≤ 1000000000000000
theorem Inv.q0 {s : St} (h : Inv s) : 0 ≤ s.q := by rw [h.q]; exact sumF_nn fun x hx => by have := (h.la x hx).q; omega
theorem Inv.v0 {s : St} (h : Inv s) : 0 ≤ s.v := by rw [h.v]; exact sumF_nn fun x hx => (h.la x hx).v
theorem Inv.lq {s : St} (h : Inv s) {x : La} (hx : x ∈ s.la) : 1 ≤ x.qty ∧ x.qty ≤ 1000000000 := by
  have h1 := sumF_mem (f := La.qty) (l := s.la) (fun x hx => by have := (h.la x hx).q; omega) x hx
  have h2 : s.q = sumF La.qty s.la := h.q
  have := h.q1
  exact ⟨(h.la x hx).q, by omega⟩
theorem Inv.lv {s : St} (h : Inv s) {x : La} (hx : x ∈ s.la) : 0 ≤ x.value ∧ x.value ≤ 1000000000000000 := by
  have h1 := sumF_mem (f := La.value) (l := s.la) (fun x hx => (h.la x hx).v) x hx
  have h2 : s.v = sumF La.value s.la := h.v
  have := h.v1
  exact ⟨(h.la x hx).v, by omega⟩
theorem zSt_inv : Inv zSt := ⟨by simp [zSt], by simp [zSt], rfl, by simp [zSt], rfl, by simp [zSt]⟩
theorem wr_id {x : Int} (h0 : -9223372036854775808 ≤ x) (h1 : x ≤ 9223372036854775807) : wr x = x := wrap_id h0 h1
/-- What an issue leaves. -/
theorem issue_ok : ∀ (la : List La) (q v : Int), (∀ x ∈ la, Pos x) → 0 ≤ q → q ≤ sumQ la → sumQ la ≤ 1000000000 → 0 ≤ v → v + sumV la ≤ 1000000000000000 →
    (∀ x ∈ (issueS la q v).1, Pos x) ∧ sumQ (issueS la q v).1 = sumQ la - q ∧ v ≤ (issueS la q v).2 ∧ sumV (issueS la q v).1 = sumV la - ((issueS la q v).2 - v) ∧
      ∃ n, n ≤ la.length ∧ ((issueS la q v).1 = la.drop n ∧ sumQ (la.take n) = q ∨ ∃ x y rest, la.drop n = x :: rest ∧ (issueS la q v).1 = y :: rest ∧ y.seq = x.seq ∧ y.lot = x.lot ∧ x.qty - y.qty = q - sumQ (la.take n))
  | [], q, v, h, h0, h1, h2, h3, h4 => by
    have hq : q = 0 := by simp only [sumQ, sumF] at h1; omega
    subst hq
    refine ⟨fun x hx => (by cases hx), by simp [issueS, sumF], Int.le_refl _, by simp [issueS, sumF], 0, Nat.le_refl _, .inl ⟨rfl, rfl⟩⟩
  | x :: r, q, v, h, h0, h1, h2, h3, h4 => by
    have hx := h x List.mem_cons_self
    have hr : ∀ y ∈ r, Pos y := fun y hy => h y (List.mem_cons_of_mem _ hy)
    have hx1 := hx.q
    have hx2 := hx.v
    have sr := sumF_nn (f := La.qty) (l := r) (fun y hy => by have := (hr y hy).q; omega)
    have sv := sumF_nn (f := La.value) (l := r) (fun y hy => (hr y hy).v)
    simp only [sumQ, sumV, sumF] at h1 h2 h4
    by_cases hq : 0 < q
    · by_cases hle : x.qty ≤ q
      · rw [issueS_pos hq hle, part_all, wr_id (by omega) (by omega), wr_id (by omega) (by omega)]
        obtain ⟨i1, i2, i3, i4, n, i5, i6⟩ := issue_ok r (q - x.qty) (v + x.value) hr (by omega) (by simp only [sumQ]; omega) (by simp only [sumQ]; omega) (by omega) (by simp only [sumV]; omega)
        refine ⟨i1, by simp only [sumQ, sumF] at i2 ⊢; omega, by omega, by simp only [sumV, sumF] at i4 ⊢; omega, n + 1, by simp; omega, ?_⟩
        rcases i6 with ⟨j1, j2⟩ | ⟨a, b, rest, j1, j2, j3, j4, j5⟩
        · exact .inl ⟨by rw [j1]; rfl, by simp only [List.take_succ_cons, sumQ, sumF] at j2 ⊢; omega⟩
        · exact .inr ⟨a, b, rest, by simpa using j1, j2, j3, j4, by simp only [List.take_succ_cons, sumQ, sumF] at j5 ⊢; omega⟩
      · have p := part_le (v := x.value) (n := q) (o := x.qty) hx2 (by omega) (by omega) (by omega) (by omega)
        rw [issueS_neg hq hle, wr_id (x := x.qty - q) (by omega) (by omega), wr_id (x := x.value - _) (by omega) (by omega), wr_id (x := v + _) (by omega) (by omega)]
        generalize partS x.value q x.qty = z at *
        refine ⟨fun y hy => ?_, by simp only [sumQ, sumF]; omega, by simp only; omega, by simp only [sumV, sumF]; omega, 0, Nat.zero_le _, .inr ⟨x, _, r, rfl, rfl, rfl, rfl, by simp only [List.take_zero, sumQ, sumF]; omega⟩⟩
        rcases List.mem_cons.1 hy with rfl | hy
        · exact ⟨by simp only; omega, by simp only; omega⟩
        · exact hr y hy
    · have hq0 : q = 0 := by omega
      subst hq0
      rw [issueS_end (.inl hq)]
      exact ⟨h, by simp, Int.le_refl _, by simp, 0, Nat.zero_le _, .inl ⟨rfl, rfl⟩⟩
end Go.Proofs.YtclohjmakcfikaaDoor.Ff

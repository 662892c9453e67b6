/- The walk of num.Text for numbers of at most four digits; no other condition. -/
import Derived.Test.YtkjacjkmmboklaaDoorDyM
import Derived.Laws.IdiomStrings
import Derived.LoopN
namespace Go.Proofs.YtkjacjkmmboklaaDoor.Dy
open Go.RowKit Go.Proofs.YtkjacjkmmboklaaDoorW.PrintWords Go.Proofs.YtkjacjkmmboklaaDoorW.PrintLast Go.Proofs.YtkjacjkmmboklaaDoorW.PrintMore
set_option linter.unusedVariables false
set_option linter.unusedSimpArgs false

/-- A digit's byte. -/
def dig (x : Int) : UInt8 := UInt8.ofNat (48 + x).toNat
theorem dig_num {x : Int} (h0 : 0 ≤ x) (h1 : x ≤ 9) : ((dig x).toNat : Int) = 48 + x := by
  unfold dig
  rw [UInt8.toNat_ofNat_of_lt' (by show (48 + x).toNat < 256; omega)]
  omega
/-- The decimal notation of a number of at most four digits. -/
def decL (n : Int) : List UInt8 := if n < 10 then [dig n] else if n < 100 then [dig (n / 10 % 10), dig (n % 10)] else if n < 1000 then [dig (n / 10 / 10 % 10), dig (n / 10 % 10), dig (n % 10)] else [dig (n / 10 / 10 / 10 % 10), dig (n / 10 / 10 % 10), dig (n / 10 % 10), dig (n % 10)]
def dec (n : Int) : ByteArray := ⟨(decL n).toArray⟩

theorem ret_str {a b : ByteArray} (h : a = b) : Ending.returned (.string a) = .returned (.string b) := by rw [h]

set_option maxHeartbeats 800000 in
set_option maxRecDepth 100000 in
theorem numtext_1 (n : Int) (h1 : 0 ≤ n) (h2 : n < 10) (w : World) :
    Calls Tryd.prog 33 #[.int .i64 n] w fun e w' => e = .returned (.string ⟨([dig (n % 10)] : List UInt8).toArray⟩) ∧ Below w.heap.size w w' := by
  have z0 : (n / 10 == 0) = true := beq_iff_eq.mpr (by omega)
  have b1 : decide (n < 0) = false := decide_eq_false (by omega)
  have hc : ∀ j (hj : j < [dig (n % 10)].length), (w.alloc (.cells #[.int .u8 0, .int .u8 0, .int .u8 0, .int .u8 0, .int .u8 0, .int .u8 0, .int .u8 0, .int .u8 0, .int .u8 0, .int .u8 0, .int .u8 0, .int .u8 0, .int .u8 0, .int .u8 0, .int .u8 0, .int .u8 0, .int .u8 0, .int .u8 0, .int .u8 0, .int .u8 (48 + n % 10)] 59)).cell? ((⟨w.heap.size, 19, none⟩ : Addr).add j) = some (.int .u8 (([dig (n % 10)][j].toNat : Nat) : Int)) := by
    intro j hj
    match j, hj with
    | 0, _ => rw [show ([dig (n % 10)][0] : UInt8) = dig (n % 10) from rfl, dig_num (by omega) (by omega)]; simp [Addr.add]
    | j + 1, h => exact absurd h (by simp)
  have hv : (convert 62 9 (.slice (some ⟨w.heap.size, 19, none⟩) 1 1)).run Tryd.prog (w.alloc (.cells #[.int .u8 0, .int .u8 0, .int .u8 0, .int .u8 0, .int .u8 0, .int .u8 0, .int .u8 0, .int .u8 0, .int .u8 0, .int .u8 0, .int .u8 0, .int .u8 0, .int .u8 0, .int .u8 0, .int .u8 0, .int .u8 0, .int .u8 0, .int .u8 0, .int .u8 0, .int .u8 (48 + n % 10)] 59)) = .ok (.string ⟨([dig (n % 10)] : List UInt8).toArray⟩) (w.alloc (.cells #[.int .u8 0, .int .u8 0, .int .u8 0, .int .u8 0, .int .u8 0, .int .u8 0, .int .u8 0, .int .u8 0, .int .u8 0, .int .u8 0, .int .u8 0, .int .u8 0, .int .u8 0, .int .u8 0, .int .u8 0, .int .u8 0, .int .u8 0, .int .u8 0, .int .u8 0, .int .u8 (48 + n % 10)] 59)) :=
    run_convert_bytes_back _ 62 9 5 _ 1 [dig (n % 10)] Tryd.underlying62 Tryd.underlying5 Tryd.underlying9 hc
  clear hc
  go_enter Tryd.func33, Tryd.ntmps33
  go_wp2
  refine wp_loop_rounds 1 ?_
  rw [rounds_succ]
  go_wp2
  go_ret
  exact ⟨rfl, below_alloc (Below.refl _ _) _⟩

set_option maxHeartbeats 800000 in
set_option maxRecDepth 100000 in
theorem numtext_2 (n : Int) (h1 : 10 ≤ n) (h2 : n < 100) (w : World) :
    Calls Tryd.prog 33 #[.int .i64 n] w fun e w' => e = .returned (.string ⟨([dig (n / 10 % 10), dig (n % 10)] : List UInt8).toArray⟩) ∧ Below w.heap.size w w' := by
  have z0 : (n / 10 == 0) = false := beq_eq_false_iff_ne.mpr (by omega)
  have z1 : (n / 10 / 10 == 0) = true := beq_iff_eq.mpr (by omega)
  have b1 : decide (n < 0) = false := decide_eq_false (by omega)
  have hc : ∀ j (hj : j < [dig (n / 10 % 10), dig (n % 10)].length), (w.alloc (.cells #[.int .u8 0, .int .u8 0, .int .u8 0, .int .u8 0, .int .u8 0, .int .u8 0, .int .u8 0, .int .u8 0, .int .u8 0, .int .u8 0, .int .u8 0, .int .u8 0, .int .u8 0, .int .u8 0, .int .u8 0, .int .u8 0, .int .u8 0, .int .u8 0, .int .u8 (48 + n / 10 % 10), .int .u8 (48 + n % 10)] 59)).cell? ((⟨w.heap.size, 18, none⟩ : Addr).add j) = some (.int .u8 (([dig (n / 10 % 10), dig (n % 10)][j].toNat : Nat) : Int)) := by
    intro j hj
    match j, hj with
    | 0, _ => rw [show ([dig (n / 10 % 10), dig (n % 10)][0] : UInt8) = dig (n / 10 % 10) from rfl, dig_num (by omega) (by omega)]; simp [Addr.add]
    | 1, _ => rw [show ([dig (n / 10 % 10), dig (n % 10)][1] : UInt8) = dig (n % 10) from rfl, dig_num (by omega) (by omega)]; simp [Addr.add]
    | j + 2, h => exact absurd h (by simp)
  have hv : (convert 62 9 (.slice (some ⟨w.heap.size, 18, none⟩) 2 2)).run Tryd.prog (w.alloc (.cells #[.int .u8 0, .int .u8 0, .int .u8 0, .int .u8 0, .int .u8 0, .int .u8 0, .int .u8 0, .int .u8 0, .int .u8 0, .int .u8 0, .int .u8 0, .int .u8 0, .int .u8 0, .int .u8 0, .int .u8 0, .int .u8 0, .int .u8 0, .int .u8 0, .int .u8 (48 + n / 10 % 10), .int .u8 (48 + n % 10)] 59)) = .ok (.string ⟨([dig (n / 10 % 10), dig (n % 10)] : List UInt8).toArray⟩) (w.alloc (.cells #[.int .u8 0, .int .u8 0, .int .u8 0, .int .u8 0, .int .u8 0, .int .u8 0, .int .u8 0, .int .u8 0, .int .u8 0, .int .u8 0, .int .u8 0, .int .u8 0, .int .u8 0, .int .u8 0, .int .u8 0, .int .u8 0, .int .u8 0, .int .u8 0, .int .u8 (48 + n / 10 % 10), .int .u8 (48 + n % 10)] 59)) :=
    run_convert_bytes_back _ 62 9 5 _ 2 [dig (n / 10 % 10), dig (n % 10)] Tryd.underlying62 Tryd.underlying5 Tryd.underlying9 hc
  clear hc
  go_enter Tryd.func33, Tryd.ntmps33
  go_wp2
  refine wp_loop_rounds 2 ?_
  rw [rounds_succ]
  go_wp2
  rw [rounds_succ]
  go_wp2
  go_ret
  exact ⟨rfl, below_alloc (Below.refl _ _) _⟩

set_option maxHeartbeats 800000 in
set_option maxRecDepth 100000 in
theorem numtext_3 (n : Int) (h1 : 100 ≤ n) (h2 : n < 1000) (w : World) :
    Calls Tryd.prog 33 #[.int .i64 n] w fun e w' => e = .returned (.string ⟨([dig (n / 10 / 10 % 10), dig (n / 10 % 10), dig (n % 10)] : List UInt8).toArray⟩) ∧ Below w.heap.size w w' := by
  have z0 : (n / 10 == 0) = false := beq_eq_false_iff_ne.mpr (by omega)
  have z1 : (n / 10 / 10 == 0) = false := beq_eq_false_iff_ne.mpr (by omega)
  have z2 : (n / 10 / 10 / 10 == 0) = true := beq_iff_eq.mpr (by omega)
  have b1 : decide (n < 0) = false := decide_eq_false (by omega)
  have hc : ∀ j (hj : j < [dig (n / 10 / 10 % 10), dig (n / 10 % 10), dig (n % 10)].length), (w.alloc (.cells #[.int .u8 0, .int .u8 0, .int .u8 0, .int .u8 0, .int .u8 0, .int .u8 0, .int .u8 0, .int .u8 0, .int .u8 0, .int .u8 0, .int .u8 0, .int .u8 0, .int .u8 0, .int .u8 0, .int .u8 0, .int .u8 0, .int .u8 0, .int .u8 (48 + n / 10 / 10 % 10), .int .u8 (48 + n / 10 % 10), .int .u8 (48 + n % 10)] 59)).cell? ((⟨w.heap.size, 17, none⟩ : Addr).add j) = some (.int .u8 (([dig (n / 10 / 10 % 10), dig (n / 10 % 10), dig (n % 10)][j].toNat : Nat) : Int)) := by
    intro j hj
    match j, hj with
    | 0, _ => rw [show ([dig (n / 10 / 10 % 10), dig (n / 10 % 10), dig (n % 10)][0] : UInt8) = dig (n / 10 / 10 % 10) from rfl, dig_num (by omega) (by omega)]; simp [Addr.add]
    | 1, _ => rw [show ([dig (n / 10 / 10 % 10), dig (n / 10 % 10), dig (n % 10)][1] : UInt8) = dig (n / 10 % 10) from rfl, dig_num (by omega) (by omega)]; simp [Addr.add]
    | 2, _ => rw [show ([dig (n / 10 / 10 % 10), dig (n / 10 % 10), dig (n % 10)][2] : UInt8) = dig (n % 10) from rfl, dig_num (by omega) (by omega)]; simp [Addr.add]
    | j + 3, h => exact absurd h (by simp)
  have hv : (convert 62 9 (.slice (some ⟨w.heap.size, 17, none⟩) 3 3)).run Tryd.prog (w.alloc (.cells #[.int .u8 0, .int .u8 0, .int .u8 0, .int .u8 0, .int .u8 0, .int .u8 0, .int .u8 0, .int .u8 0, .int .u8 0, .int .u8 0, .int .u8 0, .int .u8 0, .int .u8 0, .int .u8 0, .int .u8 0, .int .u8 0, .int .u8 0, .int .u8 (48 + n / 10 / 10 % 10), .int .u8 (48 + n / 10 % 10), .int .u8 (48 + n % 10)] 59)) = .ok (.string ⟨([dig (n / 10 / 10 % 10), dig (n / 10 % 10), dig (n % 10)] : List UInt8).toArray⟩) (w.alloc (.cells #[.int .u8 0, .int .u8 0, .int .u8 0, .int .u8 0, .int .u8 0, .int .u8 0, .int .u8 0, .int .u8 0, .int .u8 0, .int .u8 0, .int .u8 0, .int .u8 0, .int .u8 0, .int .u8 0, .int .u8 0, .int .u8 0, .int .u8 0, .int .u8 (48 + n / 10 / 10 % 10), .int .u8 (48 + n / 10 % 10), .int .u8 (48 + n % 10)] 59)) :=
    run_convert_bytes_back _ 62 9 5 _ 3 [dig (n / 10 / 10 % 10), dig (n / 10 % 10), dig (n % 10)] Tryd.underlying62 Tryd.underlying5 Tryd.underlying9 hc
  clear hc
  go_enter Tryd.func33, Tryd.ntmps33
  go_wp2
  refine wp_loop_rounds 3 ?_
  rw [rounds_succ]
  go_wp2
  rw [rounds_succ]
  go_wp2
  rw [rounds_succ]
  go_wp2
  go_ret
  exact ⟨rfl, below_alloc (Below.refl _ _) _⟩

set_option maxHeartbeats 800000 in
set_option maxRecDepth 100000 in
theorem numtext_4 (n : Int) (h1 : 1000 ≤ n) (h2 : n < 10000) (w : World) :
    Calls Tryd.prog 33 #[.int .i64 n] w fun e w' => e = .returned (.string ⟨([dig (n / 10 / 10 / 10 % 10), dig (n / 10 / 10 % 10), dig (n / 10 % 10), dig (n % 10)] : List UInt8).toArray⟩) ∧ Below w.heap.size w w' := by
  have z0 : (n / 10 == 0) = false := beq_eq_false_iff_ne.mpr (by omega)
  have z1 : (n / 10 / 10 == 0) = false := beq_eq_false_iff_ne.mpr (by omega)
  have z2 : (n / 10 / 10 / 10 == 0) = false := beq_eq_false_iff_ne.mpr (by omega)
  have z3 : (n / 10 / 10 / 10 / 10 == 0) = true := beq_iff_eq.mpr (by omega)
  have b1 : decide (n < 0) = false := decide_eq_false (by omega)
  have hc : ∀ j (hj : j < [dig (n / 10 / 10 / 10 % 10), dig (n / 10 / 10 % 10), dig (n / 10 % 10), dig (n % 10)].length), (w.alloc (.cells #[.int .u8 0, .int .u8 0, .int .u8 0, .int .u8 0, .int .u8 0, .int .u8 0, .int .u8 0, .int .u8 0, .int .u8 0, .int .u8 0, .int .u8 0, .int .u8 0, .int .u8 0, .int .u8 0, .int .u8 0, .int .u8 0, .int .u8 (48 + n / 10 / 10 / 10 % 10), .int .u8 (48 + n / 10 / 10 % 10), .int .u8 (48 + n / 10 % 10), .int .u8 (48 + n % 10)] 59)).cell? ((⟨w.heap.size, 16, none⟩ : Addr).add j) = some (.int .u8 (([dig (n / 10 / 10 / 10 % 10), dig (n / 10 / 10 % 10), dig (n / 10 % 10), dig (n % 10)][j].toNat : Nat) : Int)) := by
    intro j hj
    match j, hj with
    | 0, _ => rw [show ([dig (n / 10 / 10 / 10 % 10), dig (n / 10 / 10 % 10), dig (n / 10 % 10), dig (n % 10)][0] : UInt8) = dig (n / 10 / 10 / 10 % 10) from rfl, dig_num (by omega) (by omega)]; simp [Addr.add]
    | 1, _ => rw [show ([dig (n / 10 / 10 / 10 % 10), dig (n / 10 / 10 % 10), dig (n / 10 % 10), dig (n % 10)][1] : UInt8) = dig (n / 10 / 10 % 10) from rfl, dig_num (by omega) (by omega)]; simp [Addr.add]
    | 2, _ => rw [show ([dig (n / 10 / 10 / 10 % 10), dig (n / 10 / 10 % 10), dig (n / 10 % 10), dig (n % 10)][2] : UInt8) = dig (n / 10 % 10) from rfl, dig_num (by omega) (by omega)]; simp [Addr.add]
    | 3, _ => rw [show ([dig (n / 10 / 10 / 10 % 10), dig (n / 10 / 10 % 10), dig (n / 10 % 10), dig (n % 10)][3] : UInt8) = dig (n % 10) from rfl, dig_num (by omega) (by omega)]; simp [Addr.add]
    | j + 4, h => exact absurd h (by simp)
  have hv : (convert 62 9 (.slice (some ⟨w.heap.size, 16, none⟩) 4 4)).run Tryd.prog (w.alloc (.cells #[.int .u8 0, .int .u8 0, .int .u8 0, .int .u8 0, .int .u8 0, .int .u8 0, .int .u8 0, .int .u8 0, .int .u8 0, .int .u8 0, .int .u8 0, .int .u8 0, .int .u8 0, .int .u8 0, .int .u8 0, .int .u8 0, .int .u8 (48 + n / 10 / 10 / 10 % 10), .int .u8 (48 + n / 10 / 10 % 10), .int .u8 (48 + n / 10 % 10), .int .u8 (48 + n % 10)] 59)) = .ok (.string ⟨([dig (n / 10 / 10 / 10 % 10), dig (n / 10 / 10 % 10), dig (n / 10 % 10), dig (n % 10)] : List UInt8).toArray⟩) (w.alloc (.cells #[.int .u8 0, .int .u8 0, .int .u8 0, .int .u8 0, .int .u8 0, .int .u8 0, .int .u8 0, .int .u8 0, .int .u8 0, .int .u8 0, .int .u8 0, .int .u8 0, .int .u8 0, .int .u8 0, .int .u8 0, .int .u8 0, .int .u8 (48 + n / 10 / 10 / 10 % 10), .int .u8 (48 + n / 10 / 10 % 10), .int .u8 (48 + n / 10 % 10), .int .u8 (48 + n % 10)] 59)) :=
    run_convert_bytes_back _ 62 9 5 _ 4 [dig (n / 10 / 10 / 10 % 10), dig (n / 10 / 10 % 10), dig (n / 10 % 10), dig (n % 10)] Tryd.underlying62 Tryd.underlying5 Tryd.underlying9 hc
  clear hc
  go_enter Tryd.func33, Tryd.ntmps33
  go_wp2
  refine wp_loop_rounds 4 ?_
  rw [rounds_succ]
  go_wp2
  rw [rounds_succ]
  go_wp2
  rw [rounds_succ]
  go_wp2
  rw [rounds_succ]
  go_wp2
  go_ret
  exact ⟨rfl, below_alloc (Below.refl _ _) _⟩

def num_Text_f (a0 : Int) : Option ByteArray := if 0 ≤ a0 ∧ a0 < 10000 then some (dec a0) else none
theorem num_Text_calls (a0 : Int) (r : ByteArray) (w : World) (h : num_Text_f a0 = some r) :
    Calls Tryd.prog 33 #[.int .i64 a0] w fun e w' => e = .returned (.string r) ∧ Below w.heap.size w w' := by
  unfold num_Text_f at h
  by_cases hI : 0 ≤ a0 ∧ a0 < 10000
  · rw [if_pos hI] at h
    obtain rfl := Option.some.inj h
    unfold dec decL
    by_cases h1 : a0 < 10
    · rw [if_pos h1]
      have e : a0 % 10 = a0 := by omega
      have := numtext_1 a0 hI.1 h1 w
      rw [e] at this; exact this
    rw [if_neg h1]
    by_cases h2 : a0 < 100
    · rw [if_pos h2]; exact numtext_2 a0 (by omega) h2 w
    rw [if_neg h2]
    by_cases h3 : a0 < 1000
    · rw [if_pos h3]; exact numtext_3 a0 (by omega) h3 w
    rw [if_neg h3]
    exact numtext_4 a0 (by omega) hI.2 w
  · rw [if_neg hI] at h; cases h
end Go.Proofs.YtkjacjkmmboklaaDoor.Dy

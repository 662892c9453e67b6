/- The pure statement of the law FiscalCounts, over package fiscal's plain functions; no condition. -/
import Derived.Test.YtghheaimgjkccaaDoorStatQF
import Derived.Test.YtghheaimgjkccaaDoorFiLaw
namespace Go.Proofs.YtghheaimgjkccaaDoor.Pure
open Go.RowKit Go.Proofs.YtghheaimgjkccaaDoor.Dy Go.Proofs.YtghheaimgjkccaaDoor.F Go.Proofs.YtghheaimgjkccaaDoor.Fl
set_option linter.unusedVariables false
set_option linter.unusedSimpArgs false

theorem FiscalCounts : FiscalCountsP := by
  intro c y1 n1 y2 n2 y3 n3 _ _ _ _ _ _ _
  refine ⟨3, ?_⟩
  unfold QF.accountinglaw05_FiscalCounts.f
  rw [count_is (by omega), count_is (by omega), count_is (by omega)]
  simp only [Option.bind_some]
  by_cases hv : vc c
  · by_cases h1 : exN c y1 n1
    · by_cases h2 : exN c y2 n2
      · by_cases h3 : exN c y3 n3
        · rw [count_of hv h1 h2, count_of hv h2 h3, count_of hv h1 h3]
          simp only [if_true]
          rw [show ((0 : Int) != 0) = false from rfl]
          simp only [QF.accountinglaw05_FiscalCounts.j0, Bool.false_eq_true, if_false]
          have b1 := exN_bd hv h1
          have b2 := exN_bd hv h2
          have b3 := exN_bd hv h3
          have w : wrap64 ((y2 - y1) * 13 + n2 - n1 + ((y3 - y2) * 13 + n3 - n2)) = (y3 - y1) * 13 + n3 - n1 := by unfold wrap64; omega
          unfold fiscal_Cmp.f
          simp only [Option.bind_some]
          rw [if_pos w, lives_is]
          have c1 : (decide (Fi.pcmp_ y1 n1 y3 n3 < 0) == decide ((y3 - y1) * 13 + n3 - n1 > 0)) = true := by
            rw [beq_iff_eq, decide_eq_decide]
            unfold Fi.pcmp_
            repeat' split
            all_goals omega
          have c2 : ((Fi.pcmp_ y1 n1 y3 n3 == 0) == ((y3 - y1) * 13 + n3 - n1 == 0)) = true := by
            rw [beq_iff_eq, Bool.eq_iff_iff, beq_iff_eq, beq_iff_eq]
            unfold Fi.pcmp_
            repeat' split
            all_goals omega
          rw [if_pos c1, if_pos c2]; rfl
        · rw [count_of hv h1 h2, count_no hv (fun q => h3 q.2), count_no hv (fun q => h3 q.2)]
          rfl
      · rw [count_no hv (fun q => h2 q.2)]
        rfl
    · rw [count_no hv (fun q => h1 q.1)]
      rfl
  · rw [count_bad hv]
    rfl

end Go.Proofs.YtghheaimgjkccaaDoor.Pure

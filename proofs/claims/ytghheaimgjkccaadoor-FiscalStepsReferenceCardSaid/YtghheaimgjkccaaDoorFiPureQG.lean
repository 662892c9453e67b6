/- The pure statement of the law FiscalStepsReference, over package fiscal's plain functions; no condition. -/
import Derived.Test.YtghheaimgjkccaaDoorStatQG
import Derived.Test.YtghheaimgjkccaaDoorFiRefQG
namespace Go.Proofs.YtghheaimgjkccaaDoor.Pure
open Go.RowKit Go.Proofs.YtghheaimgjkccaaDoor.Dy Go.Proofs.YtghheaimgjkccaaDoor.F Go.Proofs.YtghheaimgjkccaaDoor.Fl Go.Proofs.YtghheaimgjkccaaDoor.FrQG
set_option linter.unusedVariables false
set_option linter.unusedSimpArgs false

theorem FiscalStepsReference : FiscalStepsReferenceP := by
  intro c y n y' n' _ _ _ _ _
  refine ⟨3, ?_⟩
  unfold QG.accountinglaw05_FiscalStepsReference.f
  rw [next_is (by omega), rnext_is (by omega), prev_is (by omega), rprev_is (by omega), count_is (by omega), rcount_is (by omega)]
  simp only [Option.bind_some, beq_self_eq_true, Bool.not_true, Bool.or_self, Bool.false_eq_true, if_false, if_true, bne_self_eq_false]
  simp only [QG.accountinglaw05_FiscalStepsReference.j0, Bool.false_eq_true, if_false]
  unfold fiscal_Cmp.f QG.accountingref05_Cmp.f
  simp only [Option.bind_some, if_true, lives_is]
end Go.Proofs.YtghheaimgjkccaaDoor.Pure

/- The pure statement of the law FiscalOfReference, over package fiscal's plain functions; no condition. -/
import Derived.Test.YtghheaimgjkccaaDoorStatQB
import Derived.Test.YtghheaimgjkccaaDoorFiRefQB
namespace Go.Proofs.YtghheaimgjkccaaDoor.Pure
open Go.RowKit Go.Proofs.YtghheaimgjkccaaDoor.Dy Go.Proofs.YtghheaimgjkccaaDoor.F Go.Proofs.YtghheaimgjkccaaDoor.Fl Go.Proofs.YtghheaimgjkccaaDoor.FrQB
set_option linter.unusedVariables false
set_option linter.unusedSimpArgs false

theorem FiscalOfReference : FiscalOfReferenceP := by
  intro c day kind _ _ _
  refine ⟨3, ?_⟩
  unfold QB.accountinglaw05_FiscalOfReference.f
  rw [Fl.of_is (by omega), FrQB.rof_is (by omega), for_is (by omega), rfor_is (by omega), lives_is]
  simp only [Option.bind_some, beq_self_eq_true, Bool.and_self, if_true]
end Go.Proofs.YtghheaimgjkccaaDoor.Pure

/- The pure statement of the law FiscalSpanReference, over package fiscal's plain functions; no condition. -/
import Derived.Test.YtghheaimgjkccaaDoorStatQA
import Derived.Test.YtghheaimgjkccaaDoorFiRefQA
namespace Go.Proofs.YtghheaimgjkccaaDoor.Pure
open Go.RowKit Go.Proofs.YtghheaimgjkccaaDoor.Dy Go.Proofs.YtghheaimgjkccaaDoor.F Go.Proofs.YtghheaimgjkccaaDoor.Fl Go.Proofs.YtghheaimgjkccaaDoor.FrQA
set_option linter.unusedVariables false
set_option linter.unusedSimpArgs false

theorem FiscalSpanReference : FiscalSpanReferenceP := by
  intro c y n _ _ _
  refine ⟨3, ?_⟩
  unfold QA.accountinglaw05_FiscalSpanReference.f
  rw [span_is (by omega), rspan_is (by omega), right_is, rright_is, lives_is]
  simp only [Option.bind_some, beq_self_eq_true, if_true]
end Go.Proofs.YtghheaimgjkccaaDoor.Pure

/- The program's SureMost returns what the reference's returns, for every whole number of units: no condition. -/
import Derived.Test.YtgfchnfceomcbaaMSets
import Derived.Test.YtgfchnfceomcbaaPx2
set_option linter.unusedVariables false
set_option linter.unusedSimpArgs false
namespace Go.Proofs.Ytgfchnfceomcbaa.Pure
open Go Go.RowKit Go.Proofs.Ytgfchnfceomcbaa.P Go.Proofs.YtgfchnfceomcbaaW.PrintWords Go.Proofs.YtgfchnfceomcbaaW.PrintLast Go.Proofs.Ytgfchnfceomcbaa.M
theorem FnExactSureMost : laws_FnExactSureMost.Pure := by
  intro a _
  unfold laws_FnExactSureMost.f
  rw [spec_sure, impl_sure]
  simp
end Go.Proofs.Ytgfchnfceomcbaa.Pure

/- The program's OnlyFaults tells the one set that fits. -/
import Derived.Test.YtgfchnfceomcbaaMSets
import Derived.Test.YtgfchnfceomcbaaPx19
set_option linter.unusedVariables false
set_option linter.unusedSimpArgs false
namespace Go.Proofs.Ytgfchnfceomcbaa.M
open Go Go.RowKit Go.Proofs.YtgfchnfceomcbaaW.PrintWords Go.Proofs.Ytgfchnfceomcbaa.P
theorem impl_onlyE (s : List (List Int)) (hn : s.length < 4611686018427387904) : Ev (fun k => impl_OnlyFaults.f k s) (onlyF s) := by
  unfold impl_OnlyFaults.f onlyF
  refine ev_bindc (impl_sure _) ?_
  refine ev_bind (impl_setsE s hn _) ?_
  cases h : setsF s (sureM (s.length : Int)) with
  | nil => exact ev_pos rfl (ev_ret rfl)
  | cons x l =>
    refine ev_neg (by rw [List.length_cons]; omega) ?_
    refine ev_pos (by rw [List.length_cons]; omega) ?_
    exact ev_ret rfl
end Go.Proofs.Ytgfchnfceomcbaa.M

/- The program's OnlyFaults returns what the reference's returns, for all arguments: no condition. -/
import Derived.Test.YtgfchnfceomcbaaMExactS
import Derived.Test.YtgfchnfceomcbaaMOnlyI
import Derived.Test.YtgfchnfceomcbaaMOnlyS
import Derived.Test.YtgfchnfceomcbaaPx22
set_option linter.unusedVariables false
set_option linter.unusedSimpArgs false
namespace Go.Proofs.Ytgfchnfceomcbaa.Pure
open Go Go.RowKit Go.Proofs.Ytgfchnfceomcbaa.P Go.Proofs.YtgfchnfceomcbaaW.PrintWords Go.Proofs.YtgfchnfceomcbaaW.PrintLast Go.Proofs.Ytgfchnfceomcbaa.M
theorem FnExactOnlyFaults : laws_FnExactOnlyFaults.Pure := by
  intro s hs
  refine Ev.rounds ?_
  unfold laws_FnExactOnlyFaults.f
  obtain ⟨h1, h2⟩ := came_in s hs
  obtain ⟨r, hr, hb⟩ := sz_rows s h1 h2
  refine ev_bind hr ?_
  by_cases h : r < 0
  · exact ev_pos h (ev_ret rfl)
  obtain ⟨b1, b2⟩ := hb (by omega)
  refine ev_neg h ?_
  refine ev_bind (to_rows s b1 b2) ?_
  refine ev_bind (spec_onlyE s (by omega)) ?_
  refine ev_bind (to_rows s b1 b2) ?_
  refine ev_bind (impl_onlyE s (by omega)) ?_
  refine ev_pos rfl ?_
  refine Ev.step (fun k => by rw [laws_FnExactOnlyFaults.j0]) ?_
  refine ev_neg (by simp) ?_
  refine ev_bind (to_rows s b1 b2) ?_
  refine ev_bind (eq_rows s b1 b2) ?_
  exact ev_pos rfl (ev_ret rfl)
end Go.Proofs.Ytgfchnfceomcbaa.Pure

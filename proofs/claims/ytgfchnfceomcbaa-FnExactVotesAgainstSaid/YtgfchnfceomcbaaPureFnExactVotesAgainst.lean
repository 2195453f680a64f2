/- The program's VotesAgainst returns what the reference's returns, for all arguments: no condition. -/
import Derived.Test.YtgfchnfceomcbaaMExactS
import Derived.Test.YtgfchnfceomcbaaMVotes
import Derived.Test.YtgfchnfceomcbaaPx13
set_option linter.unusedVariables false
set_option linter.unusedSimpArgs false
namespace Go.Proofs.Ytgfchnfceomcbaa.Pure
open Go Go.RowKit Go.Proofs.Ytgfchnfceomcbaa.P Go.Proofs.YtgfchnfceomcbaaW.PrintWords Go.Proofs.YtgfchnfceomcbaaW.PrintLast Go.Proofs.Ytgfchnfceomcbaa.M
theorem FnExactVotesAgainst : laws_FnExactVotesAgainst.Pure := by
  intro s u hs _
  refine Ev.rounds ?_
  unfold laws_FnExactVotesAgainst.f
  obtain ⟨h1, h2⟩ := came_in s hs
  obtain ⟨r, hr, hb⟩ := sz_rows s h1 h2
  refine ev_bind hr ?_
  by_cases h : r < 0
  · exact ev_pos h (ev_ret rfl)
  obtain ⟨b1, b2⟩ := hb (by omega)
  refine ev_neg h ?_
  refine ev_bind (to_rows s b1 b2) ?_
  refine ev_bind (spec_votesE s (by omega) u) ?_
  refine ev_bind (to_rows s b1 b2) ?_
  refine ev_bind (impl_votesE s (by omega) u) ?_
  refine ev_pos rfl ?_
  refine ev_bind (to_rows s b1 b2) ?_
  refine ev_bind (eq_rows s b1 b2) ?_
  exact ev_pos rfl (ev_ret rfl)
end Go.Proofs.Ytgfchnfceomcbaa.Pure

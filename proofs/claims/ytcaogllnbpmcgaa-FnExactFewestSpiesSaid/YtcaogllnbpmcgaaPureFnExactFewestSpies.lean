/- The program's FewestSpies returns what the reference's returns, for all arguments, and leaves them as they were: no condition. -/
import Derived.Test.YtcaogllnbpmcgaaMAllFnExactSpyRows1
import Derived.Test.YtcaogllnbpmcgaaPx18
set_option linter.unusedVariables false
set_option linter.unusedSimpArgs false
namespace Go.Proofs.Ytcaogllnbpmcgaa.Pure
open Go Go.RowKit Go.Proofs.Ytcaogllnbpmcgaa.P Go.Proofs.YtcaogllnbpmcgaaW.PrintWords Go.Proofs.YtcaogllnbpmcgaaW.PrintLast Go.Proofs.Ytcaogllnbpmcgaa.M
theorem FnExactFewestSpies : laws_FnExactFewestSpies.Pure := by
  intro n s hn hs
  refine Ev.rounds ?_
  unfold laws_FnExactFewestSpies.f
  obtain ⟨r, hr, hsm⟩ := sz_claims s hs.1 fun c hc => (hs.2 c hc).2.1
  refine ev_bind hr ?_
  by_cases h0 : r < 0
  · exact ev_pos h0 (ev_ret rfl)
  refine ev_neg h0 ?_
  have hsm := hsm (by omega)
  have h64 := toCs64 s hs hsm
  refine ev_bind (to_claims s hsm) ?_
  refine ev_bind (spec_fewE n (wf_le hn).2 (toCs s) h64) ?_
  refine ev_bind (to_claims s hsm) ?_
  refine ev_bind (impl_fewE n (toCs s) h64.1) ?_
  refine ev_pos rfl ?_
  refine ev_bind (to_claims s hsm) ?_
  refine ev_bind (eq_claims (toCs s) h64.1 fun j => (h64.2 j).2) ?_
  exact ev_pos rfl (ev_ret rfl)
end Go.Proofs.Ytcaogllnbpmcgaa.Pure

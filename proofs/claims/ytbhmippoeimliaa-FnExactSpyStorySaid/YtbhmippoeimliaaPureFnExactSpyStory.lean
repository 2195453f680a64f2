/- The program's SpyStory returns what the reference's returns, for all arguments, and leaves them as they were: no condition. -/
import Derived.Test.YtbhmippoeimliaaMSpies
import Derived.Test.YtbhmippoeimliaaMExactC
import Derived.Test.YtbhmippoeimliaaMExactN
import Derived.Test.YtbhmippoeimliaaPx12
set_option linter.unusedVariables false
set_option linter.unusedSimpArgs false
namespace Go.Proofs.Ytbhmippoeimliaa.Pure
open Go Go.RowKit Go.Proofs.Ytbhmippoeimliaa.P Go.Proofs.YtbhmippoeimliaaW.PrintWords Go.Proofs.YtbhmippoeimliaaW.PrintLast Go.Proofs.Ytbhmippoeimliaa.M
theorem FnExactSpyStory : laws_FnExactSpyStory.Pure := by
  intro ks s hk hs
  refine Ev.rounds ?_
  unfold laws_FnExactSpyStory.f
  by_cases h : (ks.length : Int) > 1048576
  · exact ev_pos h (ev_ret rfl)
  refine ev_neg h ?_
  obtain ⟨r, hr, hsm⟩ := sz_claims s hs.1 fun c hc => (hs.2 c hc).2.1
  refine ev_bind hr ?_
  by_cases h0 : r < 0
  · exact ev_pos h0 (ev_ret rfl)
  refine ev_neg h0 ?_
  have hsm := hsm (by omega)
  have h64 := toCs64 s hs hsm
  refine ev_bind (to_int ks (by omega)) ?_
  refine ev_bind (to_claims s hsm) ?_
  obtain ⟨b, hb, hi⟩ := spec_spies ks (by omega) (toCs s) h64
  refine ev_bind hb ?_
  refine ev_bind (to_int ks (by omega)) ?_
  refine ev_bind (to_claims s hsm) ?_
  refine ev_bind ((impl_spies ks (by omega) (toCs s) h64.1).ev hi) ?_
  refine ev_neg (by simp) ?_
  refine ev_bind (to_int ks (by omega)) ?_
  refine ev_bind (eq_int ks (by omega)) ?_
  refine ev_pos rfl ?_
  refine ev_bind (to_claims s hsm) ?_
  refine ev_bind (eq_claims (toCs s) h64.1 fun j => (h64.2 j).2) ?_
  exact ev_pos rfl (ev_ret rfl)
end Go.Proofs.Ytbhmippoeimliaa.Pure

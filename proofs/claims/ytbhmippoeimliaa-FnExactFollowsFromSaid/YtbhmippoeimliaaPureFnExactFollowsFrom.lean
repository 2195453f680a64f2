/- The program's FollowsFrom returns what the reference's returns, for all arguments, and leaves them as they were: no condition. -/
import Derived.Test.YtbhmippoeimliaaMTables
import Derived.Test.YtbhmippoeimliaaMExactC
import Derived.Test.YtbhmippoeimliaaPx14
import Derived.Test.YtbhmippoeimliaaPx6
import Derived.Test.YtbhmippoeimliaaPx15
set_option linter.unusedVariables false
set_option linter.unusedSimpArgs false
namespace Go.Proofs.Ytbhmippoeimliaa.M
open Go Go.RowKit Go.Proofs.YtbhmippoeimliaaW.PrintWords Go.Proofs.Ytbhmippoeimliaa.P
theorem impl_followsE (n : Int) (s : List Cl) (hs : s.length < 4611686018427387904) (l : List Mk) : ∃ b : Bool, Ev (fun k => impl_FollowsFrom.f k n s l) b ∧ (∀ (hn : n ≤ 9223372036854775807) (h64 : S64 s) (hl : M64 l) (hll : l.length < 4611686018427387904), Ev (fun k => spec_FollowsFrom.f k n s l) b) := by
  unfold impl_FollowsFrom.f spec_FollowsFrom.f
  obtain ⟨b, hb, hi⟩ := impl_storyOk n s hs
  cases b with
  | false =>
    refine ⟨false, ev_bind hb (ev_neg (by decide) (ev_ret rfl)), fun hn h64 _ _ => ?_⟩
    exact ev_bind ((spec_storyOk n hn s h64).ev hi) (ev_neg (by decide) (ev_ret rfl))
  | true =>
    have hS := hi.1 rfl
    obtain ⟨c, hc, hj⟩ := impl_termOk n l
    cases c with
    | false =>
      refine ⟨false, ev_bind hb (ev_pos rfl (ev_bind hc (ev_neg (by decide) (ev_ret rfl)))), fun hn h64 hl hll => ?_⟩
      exact ev_bind ((spec_storyOk n hn s h64).ev hi) (ev_pos rfl (ev_bind ((spec_termOk n hn l hl hll).ev hj) (ev_neg (by decide) (ev_ret rfl))))
    | true =>
      have hT := hj.1 rfl
      obtain ⟨m, rfl⟩ : ∃ m : Nat, n = (m : Int) := ⟨n.toNat, by have := hT.1.1; omega⟩
      refine ⟨_, ev_bind hb (ev_pos rfl (ev_bind hc (ev_pos rfl (ev_bind (impl_storyE m s hS) (ev_bindc (impl_tableOfE m l hT) (ev_ret rfl)))))), fun hn h64 hl hll => ?_⟩
      exact ev_bind ((spec_storyOk _ hn s h64).ev hi) (ev_pos rfl (ev_bind ((spec_termOk _ hn l hl hll).ev hj) (ev_pos rfl (ev_bind (spec_storyE m s hS) (ev_bind (spec_l3TableE m l hT) (ev_ret rfl))))))
end Go.Proofs.Ytbhmippoeimliaa.M
namespace Go.Proofs.Ytbhmippoeimliaa.Pure
open Go Go.RowKit Go.Proofs.Ytbhmippoeimliaa.P Go.Proofs.YtbhmippoeimliaaW.PrintWords Go.Proofs.YtbhmippoeimliaaW.PrintLast Go.Proofs.Ytbhmippoeimliaa.M
theorem FnExactFollowsFrom : laws_FnExactFollowsFrom.Pure := by
  intro n s l wn hs hl
  refine Ev.rounds ?_
  unfold laws_FnExactFollowsFrom.f
  obtain ⟨r, hr, hr1, hsm⟩ := sz_claims2 s hs.1 fun c hc => (hs.2 c hc).2.1
  refine ev_bind hr ?_
  by_cases h0 : r < 0
  · exact ev_pos h0 (ev_ret rfl)
  refine ev_neg h0 ?_
  obtain ⟨r2, hr2, _, hl2⟩ := sz_marks l r hl.1 (by omega) (by omega)
  refine ev_bindc hr2 ?_
  by_cases h2 : r2 < 0
  · exact ev_pos h2 (ev_ret rfl)
  refine ev_neg h2 ?_
  have hsm := hsm (by omega)
  have h64 := toCs64 s hs hsm
  have hlen : l.length ≤ 1048576 := by have := hl2 (by omega); omega
  have hl64 : M64 (toMs l) := toMs64 l hl.2
  have hll : (toMs l).length < 4611686018427387904 := by rw [toMs_len]; omega
  refine ev_bind (to_claims s hsm) ?_
  refine ev_bind (to_marks l hlen) ?_
  obtain ⟨b, hb, hb2⟩ := impl_followsE n (toCs s) h64.1 (toMs l)
  refine ev_bind (hb2 (wf_le wn).2 h64 hl64 hll) ?_
  refine ev_bind (to_claims s hsm) ?_
  refine ev_bind (to_marks l hlen) ?_
  refine ev_bind hb ?_
  refine ev_neg (by simp) ?_
  refine ev_bind (to_claims s hsm) ?_
  refine ev_bind (eq_claims (toCs s) h64.1 fun j => (h64.2 j).2) ?_
  refine ev_pos rfl ?_
  refine ev_bind (to_marks l hlen) ?_
  refine ev_bind (eq_marks (toMs l) hll) ?_
  exact ev_pos rfl (ev_ret rfl)
end Go.Proofs.Ytbhmippoeimliaa.Pure

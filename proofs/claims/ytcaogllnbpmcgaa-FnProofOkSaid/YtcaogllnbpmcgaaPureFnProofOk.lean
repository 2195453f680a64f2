/- What is proved follows, and with a claim more it is a proof still, whatever is drawn: no condition. -/
import Derived.Test.YtcaogllnbpmcgaaMAllFnProofOk3
import Derived.Test.YtcaogllnbpmcgaaPx25
set_option linter.unusedVariables false
set_option linter.unusedSimpArgs false
namespace Go.Proofs.Ytcaogllnbpmcgaa.Pure
open Go Go.RowKit Go.Proofs.Ytcaogllnbpmcgaa.P Go.Proofs.YtcaogllnbpmcgaaW.PrintWords Go.Proofs.YtcaogllnbpmcgaaW.PrintLast Go.Proofs.Ytcaogllnbpmcgaa.M
theorem alive_okP : laws_alive.f = some true := by decide +kernel
theorem FnProofOk : laws_FnProofOk.Pure := by
  intro l0 hl h2 hw
  refine Ev.rounds ?_
  unfold laws_FnProofOk.f
  by_cases hbig : (l0.length : Int) > 1048576
  · exact ev_pos hbig (ev_ret rfl)
  refine ev_neg hbig ?_
  obtain ⟨b, hb, hB⟩ := openE l0 hw
  obtain ⟨n, s, l, fi, S, q, ep, hsl, hss, hll, hls, hn4, hP, _⟩ := l20ProofE b hB 2
  have ed : Ev (fun k => spec_DrawProofOk.f k l0) (n, s, l, fi, S) := by
    unfold spec_DrawProofOk.f
    exact ev_bindc hb (ev_bind ep (ev_ret rfl))
  refine ev_bind ed ?_
  dsimp only
  have h64 := hss.S64 (by omega)
  have h64p := hP.prf64 s (by omega)
  obtain ⟨c, hc, hi⟩ := spec_proofE n (by omega) s h64 l hls.M64 (by omega) fi S h64p
  refine ev_bindc (impl_proofE n s l fi S h64p c hi) (ev_bind hc (ev_neg (by simp) ?_))
  cases c with
  | false => exact ev_neg (by decide) (ev_bindc alive_okP (ev_ret rfl))
  | true =>
    have hok := hi.1 rfl
    have hS := hok.1
    have hn := hS.2.1
    have h6 := hS.2.2
    obtain ⟨m, rfl⟩ : ∃ m : Nat, n = (m : Int) := ⟨n.toNat, by omega⟩
    have hf : Ev (fun k => impl_FollowsFrom.f k (m : Int) s l) true := (impl_followsT (m : Int) s (by omega) l).ev ⟨fun _ => ⟨hS, hok.2.1, by rw [Int.toNat_natCast]; exact prf_follows hok⟩, fun _ => rfl⟩
    refine ev_pos rfl (ev_bindc rfl (ev_pos (by simp only [List.length_nil]; omega) (ev_bindc rfl ?_)))
    rw [List.nil_append]
    by_cases h0 : (s.length : Int) > 0
    · refine ev_pos h0 (ev_pos (by omega) (ev_pos (by omega) (ev_bindc rfl ?_)))
      have e0 : rd_T38 s 0 = s.getD 0 zC := rdC s 0
      rw [e0]
      obtain ⟨x, hx⟩ : ∃ x, s.getD 0 zC = x := ⟨_, rfl⟩
      rw [hx]
      have hm : x ∈ s := by rw [← hx]; exact getD_mem s zC 0 (by omega)
      have hxs := hss x hm
      have h64m : S64 (s ++ [(⟨x.f0, x.f1⟩ : Cl)]) := (hss.app hxs.1 hxs.2).S64 (by simp; omega)
      refine ev_bind hf (ev_pos rfl ?_)
      obtain ⟨c2, hc2, hi2⟩ := spec_storyOk (m : Int) (by omega) (s ++ [⟨x.f0, x.f1⟩]) h64m
      refine ev_bind hc2 ?_
      cases c2 with
      | false => exact ev_neg (by decide) (ev_ret rfl)
      | true =>
        have hS2 := hi2.1 rfl
        have := hS2.2.2
        exact ev_pos rfl (ev_bindc (impl_proofE (m : Int) (s ++ [⟨x.f0, x.f1⟩]) l fi S (hP.prf64 _ (by omega)) true ⟨fun _ => prf_more hok hS2, fun _ => rfl⟩) (ev_ret rfl))
    · refine ev_neg h0 (ev_bind hf (ev_pos rfl ?_))
      refine ev_bind ((spec_storyOk (m : Int) (by omega) s h64).ev (b := true) ⟨fun _ => hS, fun _ => rfl⟩) (ev_pos rfl ?_)
      exact ev_bindc (impl_proofE (m : Int) s l fi S h64p true hi) (ev_ret rfl)
end Go.Proofs.Ytcaogllnbpmcgaa.Pure

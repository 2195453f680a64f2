/- The program's ProofOk returns what the reference's returns, for all arguments, and leaves them as they were: no condition. -/
import Derived.Test.YtcaogllnbpmcgaaMAllFnExactProofOk1
import Derived.Test.YtcaogllnbpmcgaaPx18
import Derived.Test.YtcaogllnbpmcgaaPx20
set_option linter.unusedVariables false
set_option linter.unusedSimpArgs false
namespace Go.Proofs.Ytcaogllnbpmcgaa.M
open Go Go.RowKit Go.Proofs.YtcaogllnbpmcgaaW.PrintWords Go.Proofs.Ytcaogllnbpmcgaa.P
theorem impl_proofE (n : Int) (s : List Cl) (t : List Mk) (fi : Int) (S : List Q.Sp) (h : Prf64 s fi S) (b : Bool) (hb : b = true ↔ PrfOk n s t fi S) : impl_ProofOk.f n s t fi S = some b := by
  unfold impl_ProofOk.f
  rw [if_pos h]
  congr 1
  rw [Bool.eq_iff_iff, hb]
  exact @decide_eq_true_iff _ (Classical.propDecidable _)
end Go.Proofs.Ytcaogllnbpmcgaa.M
namespace Go.Proofs.Ytcaogllnbpmcgaa.Pure
open Go Go.RowKit Go.Proofs.Ytcaogllnbpmcgaa.P Go.Proofs.YtcaogllnbpmcgaaW.PrintWords Go.Proofs.YtcaogllnbpmcgaaW.PrintLast Go.Proofs.Ytcaogllnbpmcgaa.M
theorem FnExactProofOk : laws_FnExactProofOk.Pure := by
  intro n s l fi S wn hs hl wf hSp
  refine Ev.rounds ?_
  unfold laws_FnExactProofOk.f
  obtain ⟨r, hr, hr1, hsm⟩ := sz_claims2 s hs.1 fun c hc => (hs.2 c hc).2.1
  refine ev_bind hr ?_
  by_cases h0 : r < 0
  · exact ev_pos h0 (ev_ret rfl)
  refine ev_neg h0 ?_
  obtain ⟨r2, hr2, hr21, hl2⟩ := sz_marks l r hl.1 (by omega) (by omega)
  refine ev_bindc hr2 ?_
  by_cases h2 : r2 < 0
  · exact ev_pos h2 (ev_ret rfl)
  refine ev_neg h2 ?_
  obtain ⟨r3, hr3, _, hl3⟩ := sz_proof fi S r2 hSp.1 (by omega) (by omega)
  refine ev_bindc hr3 ?_
  by_cases h3 : r3 < 0
  · exact ev_pos h3 (ev_ret rfl)
  refine ev_neg h3 ?_
  have hsm := hsm (by omega)
  have h64 := toCs64 s hs hsm
  have hlen : l.length ≤ 1048576 := by have := hl2 (by omega); omega
  have hSlen : S.length ≤ 1048576 := by have := hl3 (by omega); omega
  have hl64 : M64 (toMs l) := toMs64 l hl.2
  have hll : (toMs l).length < 4611686018427387904 := by rw [toMs_len]; omega
  have hP : Prf64 (toCs s) fi (toSs S) := by
    refine ⟨h64.1, (wf_le wf).1, fun i hi => ?_⟩
    rw [toSs_len] at hi
    have e : (toSs S).getD i Q.zS = toS (S.getD i zLS) := by
      unfold toSs
      rw [getD_lt _ _ _ (by simpa using hi), getD_lt _ _ _ hi, List.getElem_map]
    rw [e]
    have hm : S.getD i zLS ∈ S := by rw [getD_lt _ _ _ hi]; exact List.getElem_mem hi
    have := hSp.2 _ hm
    exact ⟨(wf_le this.2.1).1, (wf_le this.2.2).1⟩
  refine ev_bind (to_claims s hsm) ?_
  refine ev_bind (to_marks l hlen) ?_
  refine ev_bind (to_proof fi S hSlen) ?_
  obtain ⟨b, hb, hib⟩ := spec_proofE n (wf_le wn).2 (toCs s) h64 (toMs l) hl64 hll fi (toSs S) hP
  refine ev_bind hb ?_
  refine ev_bind (to_claims s hsm) ?_
  refine ev_bind (to_marks l hlen) ?_
  refine ev_bind (to_proof fi S hSlen) ?_
  refine ev_bindc (impl_proofE n (toCs s) (toMs l) fi (toSs S) hP b hib) ?_
  refine ev_neg (by simp) ?_
  refine ev_bind (to_claims s hsm) ?_
  refine ev_bind (eq_claims (toCs s) h64.1 fun j => (h64.2 j).2) ?_
  refine ev_pos rfl ?_
  refine ev_bind (to_marks l hlen) ?_
  refine ev_bind (eq_marks (toMs l) hll) ?_
  refine ev_pos rfl ?_
  refine ev_bind (to_proof fi S hSlen) ?_
  refine ev_bind (eq_proof fi (toSs S) (by rw [toSs_len]; omega)) ?_
  exact ev_pos rfl (ev_ret rfl)
end Go.Proofs.Ytcaogllnbpmcgaa.Pure

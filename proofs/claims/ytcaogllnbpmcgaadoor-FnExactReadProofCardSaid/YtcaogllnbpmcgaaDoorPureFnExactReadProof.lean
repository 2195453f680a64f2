/- The program's ReadProof returns what the reference's returns, for all arguments, leaves them as they were and returns memory of its own: no condition. -/
import Derived.Test.YtcaogllnbpmcgaaDoorMAllFnExactReadProof1
import Derived.Test.YtcaogllnbpmcgaaDoorPx30
set_option linter.unusedVariables false
set_option linter.unusedSimpArgs false
namespace Go.Proofs.YtcaogllnbpmcgaaDoor.Pure
open Go Go.RowKit Go.Proofs.YtcaogllnbpmcgaaDoor.P Go.Proofs.YtcaogllnbpmcgaaDoorW.PrintWords Go.Proofs.YtcaogllnbpmcgaaDoorW.PrintLast Go.Proofs.YtcaogllnbpmcgaaDoor.M
theorem impl_readX (n : Int) (s : List Cl) (t : List Mk) (x : ByteArray) (h : s.length < 4611686018427387904) : impl_ReadProof.f n s t x = some (readF n s t x) := by
  unfold impl_ReadProof.f
  rw [if_pos h]
theorem FnExactReadProof : laws_FnExactReadProof.Pure := by
  intro n s l x wn hs hl hx
  suffices h_ : Ev (fun k => laws_FnExactReadProof.f k n s l x) true by obtain ⟨K, hK⟩ := h_; exact ⟨K, hK K (Nat.le_refl K)⟩
  unfold laws_FnExactReadProof.f
  by_cases hbig : (x.size : Int) > 1048576
  · exact ev_pos hbig (ev_ret rfl)
  refine ev_neg hbig ?_
  obtain ⟨r, hr, hr1, hsm⟩ := sz_claims2 s hs.1 fun c hc => (hs.2 c hc).2.1
  refine ev_bind hr ?_
  by_cases h0 : r < 0
  · exact ev_pos h0 (ev_ret rfl)
  refine ev_neg h0 ?_
  obtain ⟨r2, hr2, hr21, hl2⟩ := sz_marks l r hl.1 (by omega) (by omega)
  refine ev_bindc hr2 ?_
  by_cases h2 : r2 < 0
  · exact ev_pos h2 (ev_ret rfl)
  refine ev_neg h2 ?_
  have hsm := hsm (by omega)
  have h64 := toCs64 s hs hsm
  have hlen : l.length ≤ 1048576 := by have := hl2 (by omega); omega
  have hl64 : M64 (toMs l) := toMs64 l hl.2
  have hll : (toMs l).length < 4611686018427387904 := by rw [toMs_len]; omega
  have hcl : ∀ c ∈ toCs s, (c.f1.length : Int) ≤ 1048576 := by
    intro c hc
    unfold toCs at hc
    obtain ⟨x, hx, rfl⟩ := List.mem_map.1 hc
    obtain ⟨j, hj, e⟩ := List.mem_iff_getElem.1 hx
    have := hsm.2 j hj
    rw [getD_lt _ _ _ hj, e] at this
    show ((toMs x.f1).length : Int) ≤ 1048576
    rw [toMs_len]
    omega
  obtain ⟨m1, x1, hm1, hm2, hmk⟩ := mark_story (toCs s) (by rw [toCs_len]; exact hsm.1) hcl
  obtain ⟨m2, x2, hm3, hmm⟩ := mark_marks (toMs l) m1 (by omega) hm2 (by rw [toMs_len]; exact hlen)
  have hlen15 : (readF n (toCs s) (toMs l) x).2.1.length ≤ 15 := by
    cases hc : (readF n (toCs s) (toMs l) x).2.2 with
    | true =>
      obtain ⟨_, T, _, hT, _, _, e⟩ := readF_true hc
      rw [e]
      show (T.lay 0).1.length ≤ 15
      rw [Q.Tr.lay_len]
      exact hT
    | false => rw [readF_false hc]; exact Nat.zero_le 15
  have hs1 := spec_readProofE n (wf_le wn).2 (toCs s) h64 (toMs l) hl64 hll x
  have hi1 := impl_readX n (toCs s) (toMs l) x h64.1
  obtain ⟨g, hg⟩ : ∃ g, readF n (toCs s) (toMs l) x = g := ⟨_, rfl⟩
  rw [hg] at hlen15 hs1 hi1
  obtain ⟨y, S, ok⟩ := g
  dsimp only at hlen15
  have heq := eq_proof y S (by omega)
  refine ev_bind (to_claims s hsm) ?_
  refine ev_bind (to_marks l hlen) ?_
  refine ev_bind hs1 ?_
  refine ev_bind (to_claims s hsm) ?_
  refine ev_bind (to_marks l hlen) ?_
  refine ev_bindc hi1 ?_
  refine ev_bind heq ?_
  refine ev_pos rfl ?_
  dsimp only
  rw [show (ok != ok) = false by simp]
  refine Ev.step (fun k => by rw [laws_FnExactReadProof.j0]) ?_
  refine ev_neg (by decide) ?_
  refine ev_bind (to_claims s hsm) ?_
  refine ev_bind (eq_claims (toCs s) h64.1 fun j => (h64.2 j).2) ?_
  refine ev_pos rfl ?_
  refine ev_bind (to_marks l hlen) ?_
  refine ev_bind (eq_marks (toMs l) hll) ?_
  refine ev_pos rfl ?_
  refine ev_bind hmk ?_
  dsimp only
  refine ev_bind hmm ?_
  dsimp only
  refine ev_neg (by omega) ?_
  refine ev_bind heq ?_
  refine ev_pos rfl ?_
  rw [show (ok != ok) = false by simp]
  refine Ev.step (fun k => by rw [laws_FnExactReadProof.j1]) ?_
  refine ev_neg (by decide) ?_
  refine ev_bind (mark_proof y S (by omega)) ?_
  dsimp only
  refine ev_bind (held_proof y S (by omega)) ?_
  refine ev_neg (by omega) ?_
  refine ev_pos rfl ?_
  refine ev_bind (to_claims s hsm) ?_
  refine ev_bind (to_marks l hlen) ?_
  refine ev_bindc hi1 ?_
  refine ev_bind heq ?_
  refine ev_pos rfl ?_
  dsimp only
  rw [show (ok != ok) = false by simp]
  refine Ev.step (fun k => by rw [laws_FnExactReadProof.j2]) ?_
  refine ev_neg (by decide) ?_
  refine ev_bind (held_proof y S (by omega)) ?_
  refine ev_neg (by omega) ?_
  exact ev_pos rfl (ev_ret rfl)
end Go.Proofs.YtcaogllnbpmcgaaDoor.Pure

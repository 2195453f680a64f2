/- A proof's text is what the reference tells; it is the empty text exactly if the proof is none; read again it is a proof with the same text and as many splits, whatever is drawn: no condition. -/
import Derived.Test.YtcaogllnbpmcgaaDoorMAllFnProofText4
import Derived.Test.YtcaogllnbpmcgaaDoorPx27
set_option linter.unusedVariables false
set_option linter.unusedSimpArgs false
namespace Go.Proofs.YtcaogllnbpmcgaaDoor.Pure
open Go Go.RowKit Go.Proofs.YtcaogllnbpmcgaaDoor.P Go.Proofs.YtcaogllnbpmcgaaDoorW.PrintWords Go.Proofs.YtcaogllnbpmcgaaDoorW.PrintLast Go.Proofs.YtcaogllnbpmcgaaDoor.M
theorem alive_okP : laws_alive.f = some true := by decide +kernel
theorem impl_readX (n : Int) (s : List Cl) (t : List Mk) (x : ByteArray) (h : s.length < 4611686018427387904) : impl_ReadProof.f n s t x = some (readF n s t x) := by
  unfold impl_ReadProof.f
  rw [if_pos h]
theorem read_64 {n : Int} {s : List Cl} {t : List Mk} {x : ByteArray} {y : Int} {a : List Q.Sp} (hs : s.length < 4611686018427387904) (h : readF n s t x = (y, a, true)) : Prf64 s y a ∧ PrfOk n s t y a := by
  obtain ⟨_, T, hT, _, _, hp, e⟩ := readF_true (n := n) (s := s) (t := t) (x := x) (by rw [h])
  rw [h] at e
  injection e with e1 e2
  injection e2 with e2 _
  rw [← e1, ← e2] at hp
  obtain ⟨h1, h2⟩ := Q.lay_64 (by decide) T 0 hT
  rw [← e1, ← e2] at *
  refine ⟨⟨hs, by omega, fun i hi => ?_⟩, hp⟩
  have := h2 _ (getD_mem a Q.zS i hi)
  omega
theorem FnProofText : laws_FnProofText.Pure := by
  intro l0 hl h2 hw
  refine Ev.rounds ?_
  unfold laws_FnProofText.f
  by_cases hbig : (l0.length : Int) > 1048576
  · exact ev_pos hbig (ev_ret rfl)
  refine ev_neg hbig ?_
  obtain ⟨b, hb, hB⟩ := openE l0 hw
  obtain ⟨n, s, l, fi, S, q, ep, hsl, hss, hll, hls, hn4, hP, _⟩ := l20ProofE b hB 9
  have ed : Ev (fun k => spec_DrawProofText.f k l0) (n, s, l, fi, S) := by
    unfold spec_DrawProofText.f
    exact ev_bindc hb (ev_bind ep (ev_ret rfl))
  refine ev_bind ed ?_
  dsimp only
  have h64 := hss.S64 (by omega)
  have h64p := hP.prf64 s (by omega)
  obtain ⟨c, hc, hi⟩ := spec_proofE n (by omega) s h64 l hls.M64 (by omega) fi S h64p
  refine ev_bind (impl_textE n s l fi S h64p c hi) (ev_bind (spec_textE n (by omega) s h64 l hls.M64 (by omega) fi S h64p) (ev_pos rfl ?_))
  cases c with
  | false =>
    rw [text_no fun h => Bool.noConfusion (hi.2 h)]
    exact ev_pos (by rw [Go.ByteArray.toList_eq]) (ev_bindc (impl_proofE n s l fi S h64p false hi) (ev_neg (by decide) (ev_bindc alive_okP (ev_ret rfl))))
  | true =>
    have hok := hi.1 rfl
    obtain ⟨y, a, hr, ht, ha⟩ := readF_text hok
    obtain ⟨h64a, hpa⟩ := read_64 h64.1 hr
    have hx := impl_readX n s l (textF n s l fi S) h64.1
    rw [hr] at hx
    refine ev_neg (fun h => text_ne hok ?_) (ev_bindc hx (ev_pos rfl ?_))
    · rw [Go.ByteArray.toList_eq] at h
      have e : (textF n s l fi S).data = #[] := Array.toList_inj.1 h
      rw [← e]
    refine ev_bind (impl_textE n s l y a h64a true ⟨fun _ => hpa, fun _ => rfl⟩) ?_
    rw [ht]
    exact ev_pos rfl (ev_ret (by dsimp only; rw [ha]; simp))
end Go.Proofs.YtcaogllnbpmcgaaDoor.Pure

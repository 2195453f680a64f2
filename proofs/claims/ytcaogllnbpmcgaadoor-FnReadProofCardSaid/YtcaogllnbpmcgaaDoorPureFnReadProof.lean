/- What is read is what the reference reads; refused it is the empty proof; else its text is the text that was read, it is a proof, and with a further star a text is refused, whatever is drawn: no condition. -/
import Derived.Test.YtcaogllnbpmcgaaDoorMAllFnReadProof4
import Derived.Test.YtcaogllnbpmcgaaDoorPx32
set_option linter.unusedVariables false
set_option linter.unusedSimpArgs false
namespace Go.Proofs.YtcaogllnbpmcgaaDoor.Pure
open Go Go.RowKit Go.Proofs.YtcaogllnbpmcgaaDoor.P Go.Proofs.YtcaogllnbpmcgaaDoorW.PrintWords Go.Proofs.YtcaogllnbpmcgaaDoorW.PrintLast Go.Proofs.YtcaogllnbpmcgaaDoor.M
theorem alive_okP : laws_alive.f = some true := by decide +kernel
theorem impl_readX (n : Int) (s : List Cl) (t : List Mk) (x : ByteArray) (h : s.length < 4611686018427387904) : impl_ReadProof.f n s t x = some (readF n s t x) := by
  unfold impl_ReadProof.f
  rw [if_pos h]
theorem same_l (a : Int) (l : List Q.Sp) (hn : l.length < 4611686018427387904) : ∀ d i, i + d = l.length → Ev (fun k => laws_sameProof.l0 k (i : Int) a l a l) true := by
  intro d
  induction d with
  | zero =>
    intro i hi
    refine Ev.step (fun k => by rw [laws_sameProof.l0]) ?_
    exact ev_neg (by omega) (ev_ret rfl)
  | succ d ih =>
    intro i hi
    refine Ev.step (fun k => by rw [laws_sameProof.l0]) ?_
    rw [w64s (by omega)]
    exact ev_pos (by omega) (ev_pos (by omega) (ev_pos (by omega) (ev_neg (by simp) (ih (i + 1) (by omega)))))
theorem same_proof (a : Int) (l : List Q.Sp) (hn : l.length < 4611686018427387904) : Ev (fun k => laws_sameProof.f k a l a l) true := by
  unfold laws_sameProof.f
  refine ev_pos rfl ?_
  rw [show ((l.length : Int) != (l.length : Int)) = false by simp]
  refine Ev.step (fun k => by rw [laws_sameProof.j0]) ?_
  exact ev_neg (by decide) (same_l a l hn l.length 0 (by omega))
theorem text_le (n : Int) (s : List Cl) (l : List Mk) (fi : Int) (S : List Q.Sp) : (textF n s l fi S).size ≤ 200 := by
  by_cases h : PrfOk n s l fi S
  · obtain ⟨y, a, hr, _⟩ := readF_text h
    exact (readF_true (n := n) (s := s) (t := l) (x := textF n s l fi S) (by rw [hr])).1
  · rw [text_no h]
    decide
theorem draw_read (l0 : List Int) (hw : ∀ x ∈ l0, (Lit.int .u8 x).wf = true) : ∃ (n : Int) (s : List Cl) (l : List Mk) (x : ByteArray), Ev (fun k => spec_DrawReadProof.f k l0) (n, s, l, x) ∧
    s.length ≤ 20 ∧ SmallS s ∧ l.length ≤ 4097 ∧ SmallL l ∧ n ≤ 4 ∧ x.size ≤ 1000 := by
  obtain ⟨b, hb, hB⟩ := openE l0 hw
  obtain ⟨n, s, l, fi, S, q, ep, hsl, hss, hll, hls, hn4, hP, hq⟩ := l20ProofE b hB 30
  have h64 := hss.S64 (by omega)
  have h64p := hP.prf64 s (by omega)
  have et := spec_textE n (by omega) s h64 l hls.M64 (by omega) fi S h64p
  have hx := text_le n s l fi S
  obtain ⟨x, ex⟩ : ∃ x, textF n s l fi S = x := ⟨_, rfl⟩
  rw [ex] at et hx
  obtain ⟨r, e, _⟩ := pickE b hB q (by omega) 3
  suffices h : ∀ o : Bool, (o = true → 0 < x.size) → ∃ z : ByteArray, Ev (fun k => spec_DrawReadProof.j0 k n s l x o b ((q + 1 : Nat) : Int)) (n, s, l, z) ∧ z.size ≤ 1000 by
    by_cases h0 : r = 0
    · obtain ⟨z, ez, hz⟩ := h (decide ((x.size : Int) > 0)) (fun h => by have := of_decide_eq_true h; omega)
      refine ⟨n, s, l, z, ?_, hsl, hss, hll, hls, hn4, hz⟩
      unfold spec_DrawReadProof.f
      exact ev_bindc hb (ev_bind ep (ev_bind et (ev_bind e (ev_pos (by simp [h0]) ez))))
    · obtain ⟨z, ez, hz⟩ := h false (fun h => by cases h)
      refine ⟨n, s, l, z, ?_, hsl, hss, hll, hls, hn4, hz⟩
      unfold spec_DrawReadProof.f
      exact ev_bindc hb (ev_bind ep (ev_bind et (ev_bind e (ev_neg (by simp; omega) ez))))
  intro o ho
  cases o with
  | false => exact ⟨x, Ev.step (fun k => by rw [spec_DrawReadProof.j0]) (ev_neg (by decide) (ev_ret rfl)), by omega⟩
  | true =>
    have ho := ho rfl
    obtain ⟨c, ec, hc, _⟩ := pickE b hB (q + 1) (by omega) (x.size : Int)
    obtain ⟨i, ei, hi, _⟩ := pickE b hB (q + 2) (by omega) 8
    obtain ⟨g, eg, hg, _⟩ := pickE b hB (q + 3) (by omega) 2
    have hc := hc (by omega)
    have hi := hi (by decide)
    have hg := hg (by decide)
    have h6 : (rdOf ByteArray.empty ([(⟨#[]⟩ : ByteArray), (⟨#[40]⟩ : ByteArray), (⟨#[41]⟩ : ByteArray), (⟨#[44]⟩ : ByteArray), (⟨#[42]⟩ : ByteArray), (⟨#[48]⟩ : ByteArray), (⟨#[97, 40, 42, 44, 42, 41]⟩ : ByteArray), (⟨#[101]⟩ : ByteArray)]) (i : Int)).size ≤ 6 := by
      rcases (by omega : i = 0 ∨ i = 1 ∨ i = 2 ∨ i = 3 ∨ i = 4 ∨ i = 5 ∨ i = 6 ∨ i = 7) with rfl | rfl | rfl | rfl | rfl | rfl | rfl | rfl <;> decide
    have hw : wrap64 ((c : Int) + (g : Int)) = ((c + g : Nat) : Int) := by rw [w64 (by omega) (by omega)]; omega
    have hs1 : (x.extract 0 (c : Int).toNat).size ≤ x.size := by rw [ByteArray.size_extract]; omega
    have hs2 : (x.extract ((c + g : Nat) : Int).toNat x.size).size ≤ x.size := by rw [ByteArray.size_extract]; omega
    refine ⟨x.extract 0 (c : Int).toNat ++ rdOf ByteArray.empty [(⟨#[]⟩ : ByteArray), (⟨#[40]⟩ : ByteArray), (⟨#[41]⟩ : ByteArray), (⟨#[44]⟩ : ByteArray), (⟨#[42]⟩ : ByteArray), (⟨#[48]⟩ : ByteArray), (⟨#[97, 40, 42, 44, 42, 41]⟩ : ByteArray), (⟨#[101]⟩ : ByteArray)] (i : Int) ++ x.extract ((c + g : Nat) : Int).toNat x.size, ?_, ?_⟩
    · refine Ev.step (fun k => by rw [spec_DrawReadProof.j0]) ?_
      refine ev_pos rfl (ev_bind ec ?_)
      dsimp only
      refine ev_pos (by omega) (ev_pos (by omega) (ev_bindc rfl (ev_bind ei ?_)))
      dsimp only
      refine ev_pos (by omega) (ev_pos (by simp; omega) (ev_pos (by omega) (ev_bind eg ?_)))
      dsimp only
      rw [hw]
      exact ev_pos (by omega) (ev_pos (by omega) (ev_pos (by rw [ByteArray.size_append]; omega) (ev_ret rfl)))
    · rw [ByteArray.size_append, ByteArray.size_append]
      omega
theorem FnReadProof : laws_FnReadProof.Pure := by
  intro l0 hl h2 hw
  refine Ev.rounds ?_
  unfold laws_FnReadProof.f
  by_cases hbig : (l0.length : Int) > 1048576
  · exact ev_pos hbig (ev_ret rfl)
  refine ev_neg hbig ?_
  obtain ⟨n, s, l, x, ed, hsl, hss, hll, hls, hn4, hx⟩ := draw_read l0 hw
  refine ev_bind ed ?_
  dsimp only
  have h64 := hss.S64 (by omega)
  have hs1 := spec_readProofE n (by omega) s h64 l hls.M64 (by omega) x
  have hi1 := impl_readX n s l x h64.1
  have hi2 := impl_readX n s l (x ++ ⟨#[42]⟩) h64.1
  cases hc : (readF n s l x).2.2 with
  | false =>
    rw [readF_false hc] at hs1 hi1
    refine ev_bindc hi1 (ev_bind hs1 (ev_bind (same_proof 0 [] (by decide)) (ev_pos rfl ?_)))
    dsimp only
    refine Ev.step (fun k => by rw [laws_FnReadProof.j0]) ?_
    exact ev_neg (by decide) (ev_neg (by decide) (ev_pos rfl (ev_pos rfl (ev_bindc alive_okP (ev_ret rfl)))))
  | true =>
    obtain ⟨_, T, hT, hn, ht, hp, e⟩ := readF_true hc
    have hst := readF_star hc
    rw [e] at hs1 hi1
    have hlen : (T.lay 0).1.length ≤ 15 := by rw [Q.Tr.lay_len]; exact hn
    obtain ⟨a1, a2⟩ := Q.lay_64 (by decide) T 0 hT
    have h64a : Prf64 s (T.lay 0).2 (T.lay 0).1 := ⟨h64.1, by omega, fun i hi => by have := a2 _ (getD_mem (T.lay 0).1 Q.zS i hi); omega⟩
    have htx : textF n s l (T.lay 0).2 (T.lay 0).1 = x := bl_inj ((lay_text hT hp).2.2.trans ht.symm)
    refine ev_bindc hi1 (ev_bind hs1 (ev_bind (same_proof (T.lay 0).2 (T.lay 0).1 (by omega)) (ev_pos rfl ?_)))
    dsimp only
    rw [show (true != true) = false from rfl]
    refine Ev.step (fun k => by rw [laws_FnReadProof.j0]) (ev_neg (by decide) (ev_pos rfl (ev_pos (by omega) (ev_bindc hi2 ?_))))
    refine ev_bind (impl_textE n s l _ _ h64a true ⟨fun _ => hp, fun _ => rfl⟩) ?_
    rw [htx]
    refine ev_pos rfl (ev_bindc (impl_proofE n s l _ _ h64a true ⟨fun _ => hp, fun _ => rfl⟩) (ev_pos rfl (ev_ret ?_)))
    rw [hst]
    rfl
end Go.Proofs.YtcaogllnbpmcgaaDoor.Pure

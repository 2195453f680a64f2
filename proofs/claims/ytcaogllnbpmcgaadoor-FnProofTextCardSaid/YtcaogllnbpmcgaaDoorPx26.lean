/- Go's functions come to just the answers of the Lean functions told here. -/
import Derived.Test.YtcaogllnbpmcgaaDoorMAllFnProofText3
import Derived.Laws.EntriesVeiled
namespace Go.Proofs.YtcaogllnbpmcgaaDoor.P
open Go.RowKit Go.Proofs.YtcaogllnbpmcgaaDoorW.PrintWords Go.Proofs.YtcaogllnbpmcgaaDoorW.PrintLast Go.Proofs.YtcaogllnbpmcgaaDoorW.PrintMore
attribute [local go_sem] max2_int min2_int max_two min_two max_three min_three max_four min_four
set_option linter.unusedVariables false
set_option linter.unusedSimpArgs false
-- HAND rounds=0 making=1
-- IMPORTS: Derived.Test.YtcaogllnbpmcgaaDoorMReadW Derived.Laws.EntriesVeiled
noncomputable def impl_ReadProof.f (a0 : Int) (l1 : List (S79)) (l2 : List (S82)) (a3 : ByteArray) : Option (Int × (List (S68)) × Bool) := if l1.length < 4611686018427387904 then some (M.readF a0 l1 l2 a3) else none
set_option maxHeartbeats 8000000 in
set_option maxRecDepth 100000 in
theorem impl_ReadProof.calls (a0 : Int) (A1 : Option Addr) (c1 : Nat) (l1 : List (S79)) (A2 : Option Addr) (c2 : Nat) (l2 : List (S82)) (a3 : ByteArray) (r1 : Int) (r2 : List (S68)) (r3 : Bool) (w : World) (hr1 : Kd.C k79 w A1 l1.length l1) (hc1 : l1.length ≤ c1) (hr2 : Kd.C k82 w A2 l2.length l2) (hc2 : l2.length ≤ c2) (h : impl_ReadProof.f a0 l1 l2 a3 = some (r1, r2, r3)) :
  Calls Tryd.prog 12 #[.int .i64 a0, .slice A1 l1.length c1, .slice A2 l2.length c2, .string a3] w fun e w' => ∃ v1_ : Value, e = .returned (.tuple #[.agg #[.int .i64 r1, v1_], .bool r3]) ∧ Kd.R k68 68 w' w.heap.size (fun _ => True) v1_ r2 ∧ Below w.heap.size w w' := by
 unfold impl_ReadProof.f at h
 by_cases h64 : l1.length < 4611686018427387904
 case neg => rw [if_neg h64] at h; cases h
 rw [if_pos h64] at h
 have hr := Option.some.inj h
 clear h
 have HC1 := Lib.hid hr1
 have HC2 := Lib.hid hr2
 clear hr1 hr2
 have hu := Tryd.underlying27
 obtain ⟨w0, hw0⟩ : ∃ w0, w.alloc (.cells #[.int .i64 0, .slice none 0 0] 27) = w0 := ⟨_, rfl⟩
 have HX0 := Lib.hid (show w0.heap[w.heap.size]? = some (.cells #[.int .i64 0, .slice none 0 0] 27 (0, 0)) by rw [← hw0]; exact M.new_at_ _ _ _ rfl)
 have HW0 := Lib.hid (show Below w.heap.size w w0 by rw [← hw0]; exact below_alloc (Below.refl _ _) _)
 have HS0 := Lib.hid (show w0.heap.size = w.heap.size + 1 by rw [← hw0, M.alloc_size_])
 have infoP : (Tryd.prog.info? 27).map (fun i => (i.zero, i.size, i.bytes)) = some (some (.agg #[.int .i64 0, .slice none 0 0]), 2, 32) := by kernel_rfl
 by_cases h200 : 200 < a3.size
 case pos =>
  have c0 : decide (200 < (a3.size : Int)) = true := decide_eq_true (by omega)
  obtain ⟨rfl, rfl, rfl⟩ : r1 = 0 ∧ r2 = [] ∧ r3 = false := by
   unfold M.readF at hr
   rw [if_pos h200] at hr
   injection hr with e1 e2
   injection e2 with e2 e3
   exact ⟨e1.symm, e2.symm, e3.symm⟩
  clear hr h200
  obtain ⟨F1, F2, F3⟩ := M.read_fin (w := w) (w0 := w0) (W := w0) (bx := w.heap.size) (v := .slice none 0 0) (sp := []) (x := .int .i64 0) (y := .slice none 0 0) (Below.refl _ _) (Kd.R_nil _ _ _ _ _) HX0.out (by rw [HS0.out]; exact Nat.le_refl _) (Nat.le_refl _) HW0.out
  have hcx0 := (blk_cell HX0.out 0).trans rfl
  have hcx1 := (blk_cell HX0.out 1).trans rfl
  have hfx0 := blk_frozen HX0.out 0
  have hfx1 := blk_frozen HX0.out 1
  have HF1 := Lib.hid F1
  have HF2 := Lib.hid F2
  have HF3 := Lib.hid F3
  clear F1 F2 F3
  go_enter Tryd.func12, Tryd.ntmps12
  go_upto_region 1 with (fail)
  clear hw0
  go_wp2
  refine bodyPost_ret (results_ct rfl _ _ w.heap.size 27 #[.int .i64 0, .slice none 0 0] (0, 0) _ rfl HF1.out Tryd.underlying27 rfl (by kernel_rfl)) rfl ?_
  exact ⟨_, rfl, HF2.out, HF3.out⟩
 have c0 : decide (200 < (a3.size : Int)) = false := decide_eq_false (by omega)
 obtain ⟨b, hb⟩ : ∃ b, w0.heap.size = b := ⟨_, rfl⟩
 obtain ⟨W1, hW1⟩ : ∃ W1, w0.alloc (.cells #[.int .i64 0, .slice none 0 0] 27) = W1 := ⟨_, rfl⟩
 have E1 := M.RE.start w0
 rw [hW1, hb] at E1
 obtain ⟨W2, hW2⟩ : ∃ W2, (W1.setCell ⟨b, 0, none⟩ (.int .i64 0)).setCell ⟨b, 1, none⟩ (.slice none 0 0) = W2 := ⟨_, rfl⟩
 have E2 := E1.zero
 rw [hW2] at E2
 have hy0 := (blk_cell E1.hq 0).trans rfl
 have hy1 := (blk_cell E1.hq 1).trans rfl
 have hz0 := blk_frozen E1.hq 0
 have hz1 := blk_frozen E1.hq 1
 have HE2 := Lib.hid E2
 obtain ⟨G, hG⟩ : ∃ G, Q.readI (a3.size + 1) 0 (M.bl a3) = G := ⟨_, rfl⟩
 have T := M.read_calls (a3.size + 1) a3 _ [] W2 (by omega) (by omega) (by decide) E2
 rw [show Q.readI (a3.size + 1) ([] : List Q.Sp).length (M.bl a3) = G from hG] at T
 have HT := Lib.hid T
 have hF : M.readO a0 l1 l2 G = (r1, r2, r3) := by rw [← hr, M.readI_O (n := a0) (s := l1) (t := l2) (x := a3) (by omega), hG]
 have HF0 := Lib.hid hF
 have HG := Lib.hid hG
 have HBX := Lib.hid (show w.heap.size < b by rw [← hb, HS0.out]; omega)
 have hne : w.heap.size ≠ b := by have := HBX.out; omega
 have hne' : b ≠ w.heap.size := fun h => hne h.symm
 clear hr hG hF E1 E2 infoP T
 go_enter Tryd.func12, Tryd.ntmps12
 go_upto_region 3 with (fail)
 clear hw0
 go_upto_region 4 with (fail)
 clear hy0 hy1 hz0 hz1
 go_upto_region 5 with (go_at_call 40; (refine HT.out.mono ?_); rintro e W5 ⟨at5, rest5, ok5, v5, sp5, rfl, E5_, _, _, hz5_, hG5_⟩; have E5 := Lib.hid E5_; have HZ5 := Lib.hid hz5_; have hG5 := Lib.hid hG5_; clear E5_ hz5_ hG5_ HT HE2)
 obtain ⟨Av, cv, ev⟩ := Kd.R_slice E5.out.hr
 subst ev
 have hy0 := (blk_cell E5.out.hq 0).trans rfl
 have hz0 := blk_frozen E5.out.hq 0
 have BX5 := blk_below HX0.out E5.out.hb
 obtain ⟨G1, G2, G3⟩ := E5.out.first at5
 have BX6 := blk_far (p := ⟨b, 0, none⟩) BX5 hne (.int .i64 at5)
 obtain ⟨W6, hW6⟩ : ∃ W6, W5.setCell ⟨b, 0, none⟩ (.int .i64 at5) = W6 := ⟨_, rfl⟩
 rw [hW6] at G1 G2 G3 BX6
 have HG1 := Lib.hid G1
 have HG2 := Lib.hid G2
 have HG3 := Lib.hid G3
 have HX6 := Lib.hid BX6
 clear G1 G2 G3 BX6 BX5
 go_upto_region 6 with (fail)
 clear hW6 hy0 hz0
 cases ok5 with
 | false =>
  have hn : G = none := by
   have h := hG5.out
   cases hq : G with
   | none => rfl
   | some q => rw [hq] at h; exact absurd h.1 Bool.false_ne_true
  subst hn
  obtain ⟨rfl, rfl, rfl⟩ : r1 = 0 ∧ r2 = [] ∧ r3 = false := by
   have h := HF0.out
   rw [show M.readO a0 l1 l2 none = (0, [], false) from rfl] at h
   injection h with e1 e2
   injection e2 with e2 e3
   exact ⟨e1.symm, e2.symm, e3.symm⟩
  obtain ⟨F1, F2, F3⟩ := M.read_fin (w := w) (w0 := w0) (W := W6) (bx := w.heap.size) (v := .slice none 0 0) (sp := []) (x := .int .i64 0) (y := .slice none 0 0) HG3.out (Kd.R_nil _ _ _ _ _) HX6.out (by rw [HS0.out]; exact Nat.le_refl _) (Nat.le_refl _) HW0.out
  have hcx0 := (blk_cell HX6.out 0).trans rfl
  have hcx1 := (blk_cell HX6.out 1).trans rfl
  have hfx0 := blk_frozen HX6.out 0
  have hfx1 := blk_frozen HX6.out 1
  have HF1 := Lib.hid F1
  have HF2 := Lib.hid F2
  have HF3 := Lib.hid F3
  clear F1 F2 F3
  go_wp2
  refine bodyPost_ret (results_ct rfl _ _ w.heap.size 27 #[.int .i64 0, .slice none 0 0] (0, 0) _ rfl HF1.out Tryd.underlying27 rfl (by kernel_rfl)) rfl ?_
  exact ⟨_, rfl, HF2.out, HF3.out⟩
 | true =>
 have hG : G = some (sp5, at5, M.bl rest5) := by
  have h := hG5.out
  cases hq : G with
  | none => rw [hq] at h; exact Bool.noConfusion h
  | some q =>
   obtain ⟨a, x, r⟩ := q
   rw [hq] at h
   obtain ⟨_, h1, h2, h3⟩ := h
   rw [h1, h2, h3]
   rfl
 subst hG
 have hemp := M.empty_is (s := rest5)
 have hemp2 := M.bl_ne (s := rest5)
 by_cases hrest : M.bl rest5 = []
 case neg =>
  rw [decide_eq_false hrest] at hemp hemp2
  have hemp3 : (rest5.toList != (⟨#[]⟩ : ByteArray).toList) = true := by unfold bne; rw [hemp2]; rfl
  obtain ⟨rfl, rfl, rfl⟩ : r1 = 0 ∧ r2 = [] ∧ r3 = false := by
   have h := HF0.out
   rw [M.readO_rest hrest] at h
   injection h with e1 e2
   injection e2 with e2 e3
   exact ⟨e1.symm, e2.symm, e3.symm⟩
  obtain ⟨F1, F2, F3⟩ := M.read_fin (w := w) (w0 := w0) (W := W6) (bx := w.heap.size) (v := .slice none 0 0) (sp := []) (x := .int .i64 0) (y := .slice none 0 0) HG3.out (Kd.R_nil _ _ _ _ _) HX6.out (by rw [HS0.out]; exact Nat.le_refl _) (Nat.le_refl _) HW0.out
  have hcx0 := (blk_cell HX6.out 0).trans rfl
  have hcx1 := (blk_cell HX6.out 1).trans rfl
  have hfx0 := blk_frozen HX6.out 0
  have hfx1 := blk_frozen HX6.out 1
  have HF1 := Lib.hid F1
  have HF2 := Lib.hid F2
  have HF3 := Lib.hid F3
  clear F1 F2 F3
  go_wp2
  refine bodyPost_ret (results_ct rfl _ _ w.heap.size 27 #[.int .i64 0, .slice none 0 0] (0, 0) _ rfl HF1.out Tryd.underlying27 rfl (by kernel_rfl)) rfl ?_
  exact ⟨_, rfl, HF2.out, HF3.out⟩
 rw [decide_eq_true hrest] at hemp hemp2
 have hemp3 : (rest5.toList != (⟨#[]⟩ : ByteArray).toList) = false := by unfold bne; rw [hemp2]; rfl
 rw [hrest] at HF0
 have hread : Q.readI (a3.size + 1) 0 (M.bl a3) = some (sp5, at5, []) := by rw [HG.out, hrest]
 have hp64 := M.read_prf64 h64 hread
 obtain ⟨K, hK⟩ := M.impl_textE a0 l1 l2 at5 sp5 hp64 (@decide (M.PrfOk a0 l1 l2 at5 sp5) (Classical.propDecidable _)) (@decide_eq_true_iff _ (Classical.propDecidable _))
 have HK := Lib.hid (hK K (Nat.le_refl _))
 have hti := M.text_iff (n := a0) (s := l1) (t := l2) (by decide) (Q.readI_some _ _ _ _ hread)
 have hte := M.list_eq (s := M.textF a0 l1 l2 at5 sp5) (t := a3)
 obtain ⟨X, hX⟩ : ∃ X, M.textF a0 l1 l2 at5 sp5 = X := ⟨_, rfl⟩
 rw [hX] at HK hti hte
 clear hK hX hread hp64 hG5
 have hy0 := (blk_cell HG1.out 0).trans rfl
 have hy1 := (blk_cell HG1.out 1).trans rfl
 have HB6 := Lib.hid (below_step HW0.out HG3.out)
 have HR6 := Lib.hid (Kd.R_reads' HG2.out)
 by_cases hp : M.PrfOk a0 l1 l2 at5 sp5
 case neg =>
  have hne3 : ¬ M.bl X = M.bl a3 := fun h => hp (hti.1 (M.bl_inj h))
  rw [decide_eq_false hne3] at hte
  have hte2 : (X.toList != a3.toList) = true := by unfold bne; rw [hte]; rfl
  obtain ⟨rfl, rfl, rfl⟩ : r1 = 0 ∧ r2 = [] ∧ r3 = false := by
   have h := HF0.out
   rw [M.readO_no hp] at h
   injection h with e1 e2
   injection e2 with e2 e3
   exact ⟨e1.symm, e2.symm, e3.symm⟩
  clear hti hne3
  go_upto_region 7 with (go_at_call 8; (refine (impl_ProofText.calls K a0 A1 c1 l1 A2 c2 l2 at5 Av cv sp5 X _ (Kd.C_below HC1.out HB6.out) hc1 (Kd.C_below HC2.out HB6.out) hc2 HR6.out.2.2 HR6.out.2.1 HK.out).mono ?_); rintro e W7 ⟨rfl, hb7⟩; have HX7 := Lib.hid (blk_below HX6.out hb7); have HG7 := Lib.hid (below_step HG3.out hb7); clear hb7 hy0 hy1)
  obtain ⟨F1, F2, F3⟩ := M.read_fin (w := w) (w0 := w0) (W := W7) (bx := w.heap.size) (v := .slice none 0 0) (sp := []) (x := .int .i64 0) (y := .slice none 0 0) HG7.out (Kd.R_nil _ _ _ _ _) HX7.out (by rw [HS0.out]; exact Nat.le_refl _) (Nat.le_refl _) HW0.out
  have hcx0 := (blk_cell HX7.out 0).trans rfl
  have hcx1 := (blk_cell HX7.out 1).trans rfl
  have hfx0 := blk_frozen HX7.out 0
  have hfx1 := blk_frozen HX7.out 1
  have HF1 := Lib.hid F1
  have HF2 := Lib.hid F2
  have HF3 := Lib.hid F3
  clear F1 F2 F3
  go_wp2
  refine bodyPost_ret (results_ct rfl _ _ w.heap.size 27 #[.int .i64 0, .slice none 0 0] (0, 0) _ rfl HF1.out Tryd.underlying27 rfl (by kernel_rfl)) rfl ?_
  exact ⟨_, rfl, HF2.out, HF3.out⟩
 rw [M.readO_yes hp] at HF0
 have hx := hti.2 hp
 subst hx
 have hte2 : (X.toList != X.toList) = false := by simp
 obtain ⟨rfl, rfl, rfl⟩ : r1 = at5 ∧ r2 = sp5 ∧ r3 = true := by
  have h := HF0.out
  injection h with e1 e2
  injection e2 with e2 e3
  exact ⟨e1.symm, e2.symm, e3.symm⟩
 clear hti hte
 go_upto_region 8 with (go_at_call 8; (refine (impl_ProofText.calls K a0 A1 c1 l1 A2 c2 l2 r1 Av cv r2 X _ (Kd.C_below HC1.out HB6.out) hc1 (Kd.C_below HC2.out HB6.out) hc2 HR6.out.2.2 HR6.out.2.1 HK.out).mono ?_); rintro e W7 ⟨rfl, hb7⟩; have HX7 := Lib.hid (blk_below HX6.out hb7); have HG7 := Lib.hid (below_step HG3.out hb7); have HR7 := Lib.hid (Kd.R_below HG2.out hb7); have H17 := Lib.hid (blk_below HG1.out hb7); clear hb7 hy0 hy1)
 have hy0 := (blk_cell H17.out 0).trans rfl
 have hy1 := (blk_cell H17.out 1).trans rfl
 obtain ⟨F1, F2, F3⟩ := M.read_fin (w := w) (w0 := w0) (W := W7) (bx := w.heap.size) (v := .slice Av r2.length cv) (sp := r2) (x := .int .i64 r1) (y := .slice Av r2.length cv) HG7.out HR7.out HX7.out (by rw [HS0.out]; exact Nat.le_refl _) (Nat.le_refl _) HW0.out
 have hcx0 := (blk_cell HX7.out 0).trans rfl
 have hcx1 := (blk_cell HX7.out 1).trans rfl
 have hfx0 := blk_frozen HX7.out 0
 have hfx1 := blk_frozen HX7.out 1
 have HF1 := Lib.hid F1
 have HF2 := Lib.hid F2
 have HF3 := Lib.hid F3
 clear F1 F2 F3
 go_wp2
 refine bodyPost_ret (results_ct rfl _ _ w.heap.size 27 #[.int .i64 r1, .slice Av r2.length cv] (0, 0) _ rfl HF1.out Tryd.underlying27 rfl (by kernel_rfl)) rfl ?_
 exact ⟨_, rfl, HF2.out, HF3.out⟩
end Go.Proofs.YtcaogllnbpmcgaaDoor.P

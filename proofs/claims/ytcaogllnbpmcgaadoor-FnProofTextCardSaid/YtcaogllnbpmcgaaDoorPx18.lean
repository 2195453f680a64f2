/- Go's functions come to just the answers of the Lean functions told here. -/
import Derived.Test.YtcaogllnbpmcgaaDoorMAllFnProofText2
import Derived.Laws.EntriesVeiled
namespace Go.Proofs.YtcaogllnbpmcgaaDoor.P
open Go.RowKit Go.Proofs.YtcaogllnbpmcgaaDoorW.PrintWords Go.Proofs.YtcaogllnbpmcgaaDoorW.PrintLast Go.Proofs.YtcaogllnbpmcgaaDoorW.PrintMore
attribute [local go_sem] max2_int min2_int max_two min_two max_three min_three max_four min_four
set_option linter.unusedVariables false
set_option linter.unusedSimpArgs false
-- HAND rounds=0 making=1
-- IMPORTS: Derived.Test.YtcaogllnbpmcgaaDoorMPrf Derived.Laws.EntriesVeiled
noncomputable def impl_ProofOk.f (a0 : Int) (l1 : List (S79)) (l2 : List (S82)) (a3_0 : Int) (l3_1 : List (S68)) : Option Bool := @ite _ (M.Prf64 l1 a3_0 l3_1) (Classical.propDecidable _) (some (@decide (M.PrfOk a0 l1 l2 a3_0 l3_1) (Classical.propDecidable _))) none
set_option maxHeartbeats 8000000 in
set_option maxRecDepth 100000 in
theorem impl_ProofOk.calls (a0 : Int) (A1 : Option Addr) (c1 : Nat) (l1 : List (S79)) (A2 : Option Addr) (c2 : Nat) (l2 : List (S82)) (a3_0 : Int) (A3_1 : Option Addr) (c3_1 : Nat) (l3_1 : List (S68)) (r : Bool) (w : World) (hr1 : Kd.C k79 w A1 l1.length l1) (hc1 : l1.length ≤ c1) (hr2 : Kd.C k82 w A2 l2.length l2) (hc2 : l2.length ≤ c2) (hr3_1 : Kd.C k68 w A3_1 l3_1.length l3_1) (hc3_1 : l3_1.length ≤ c3_1) (h : impl_ProofOk.f a0 l1 l2 a3_0 l3_1 = some r) :
  Calls Tryd.prog 10 #[.int .i64 a0, .slice A1 l1.length c1, .slice A2 l2.length c2, .agg #[.int .i64 a3_0, .slice A3_1 l3_1.length c3_1]] w fun e w' => e = .returned (.bool r) ∧ Below w.heap.size w w' := by
 unfold impl_ProofOk.f at h
 by_cases h64 : M.Prf64 l1 a3_0 l3_1
 case neg => rw [if_neg h64] at h; cases h
 rw [if_pos h64] at h
 have hr := Option.some.inj h
 have hdec : r = true ↔ M.PrfOk a0 l1 l2 a3_0 l3_1 := by rw [← hr]; exact @decide_eq_true_iff _ (Classical.propDecidable _)
 clear h hr
 have HC1 := Lib.hid hr1
 have HC2 := Lib.hid hr2
 have HC3 := Lib.hid hr3_1
 clear hr1 hr2 hr3_1
 by_cases hS : M.StoryP a0 l1
 case neg =>
  have hrf : r = false := by
   cases r with
   | false => rfl
   | true => exact absurd (hdec.1 rfl).1 hS
  subst hrf
  obtain ⟨K, hK⟩ := (M.impl_storyOk a0 l1 h64.1).ev (b := false) ⟨fun h => (by cases h), fun h => absurd h hS⟩
  have HK := Lib.hid (hK K (Nat.le_refl _))
  clear hK hdec h64
  go_enter Tryd.func10, Tryd.ntmps10
  go_wp2_with (go_at_call 34; (refine (impl_StoryOk.calls K a0 A1 c1 l1 false _ (Kd.C_below HC1.out (by repeat (first | exact Below.refl _ _ | apply below_alloc))) hc1 HK.out).mono ?_); rintro e W1 ⟨rfl, hb1⟩)
  go_ret
  exact ⟨rfl, below_step (by repeat (first | exact Below.refl _ _ | apply below_alloc)) hb1⟩
 have hn := hS.2.1
 obtain ⟨n, rfl⟩ : ∃ m : Nat, a0 = (m : Int) := ⟨a0.toNat, by omega⟩
 obtain ⟨K, hK⟩ := (M.impl_storyOk (n : Int) l1 h64.1).ev (b := true) ⟨fun _ => hS, fun _ => rfl⟩
 have HK := Lib.hid (hK K (Nat.le_refl _))
 clear hK
 have P0 := Lib.hid (show (M.prfW n l1.length A1 c1 l2.length A2 c2 a3_0 l3_1.length A3_1 c3_1 w).heap[w.heap.size]? = _ from blk_alloc (blk_alloc (blk_alloc (M.new_at_ _ _ _ rfl) _) _) _)
 have P2 := Lib.hid (show (M.prfW n l1.length A1 c1 l2.length A2 c2 a3_0 l3_1.length A3_1 c3_1 w).heap[w.heap.size + 1 + 1]? = _ from blk_alloc (M.new_at_ _ _ _ (by simp only [M.alloc_size_])) _)
 have P3 := Lib.hid (show (M.prfW n l1.length A1 c1 l2.length A2 c2 a3_0 l3_1.length A3_1 c3_1 w).heap[w.heap.size + 1 + 1 + 1]? = _ from M.new_at_ _ _ _ (by simp only [M.alloc_size_]))
 by_cases hT : M.TermP n l2
 case neg =>
  have hrf : r = false := by
   cases r with
   | false => rfl
   | true => exact absurd (hdec.1 rfl).2.1 hT
  subst hrf
  obtain ⟨K2, hK2⟩ := (M.impl_termOk n l2).ev (b := false) ⟨fun h => (by cases h), fun h => absurd h hT⟩
  have HK2 := Lib.hid (hK2 K2 (Nat.le_refl _))
  clear hK2 hdec h64
  go_enter Tryd.func10, Tryd.ntmps10
  go_wp2_with (first
   | (go_at_call 34; (refine (impl_StoryOk.calls K n A1 c1 l1 true _ (Kd.C_below HC1.out (by repeat (first | exact Below.refl _ _ | apply below_alloc))) hc1 HK.out).mono ?_); rintro e W1 ⟨rfl, hb1⟩; have HB1 := Lib.hid (below_step (show Below w.heap.size w _ by repeat (first | exact Below.refl _ _ | apply below_alloc)) hb1); have z0 := cell_of_one (blk_below P0.out hb1); have z2 := cell_of_one (blk_below P2.out hb1); clear hb1)
   | (go_at_call 35; (refine (impl_TermOk.calls K2 n A2 c2 l2 false _ (Kd.C_below HC2.out HB1.out) hc2 HK2.out).mono ?_); rintro e W2 ⟨rfl, hb2⟩; have HB2 := Lib.hid (below_step HB1.out hb2)))
  go_ret
  exact ⟨rfl, HB2.out⟩
 obtain ⟨K2, hK2⟩ := (M.impl_termOk n l2).ev (b := true) ⟨fun _ => hT, fun _ => rfl⟩
 have HK2 := Lib.hid (hK2 K2 (Nat.le_refl _))
 clear hK2
 by_cases hl : l3_1.length ≤ 15
 case neg =>
  have hrf : r = false := by
   cases r with
   | false => rfl
   | true => exact absurd (hdec.1 rfl).2.2.1 hl
  subst hrf
  have d1 : decide (15 < (l3_1.length : Int)) = true := decide_eq_true (by omega)
  clear hdec h64
  go_enter Tryd.func10, Tryd.ntmps10
  go_wp2_with (first
   | (go_at_call 34; (refine (impl_StoryOk.calls K n A1 c1 l1 true _ (Kd.C_below HC1.out (by repeat (first | exact Below.refl _ _ | apply below_alloc))) hc1 HK.out).mono ?_); rintro e W1 ⟨rfl, hb1⟩; have HB1 := Lib.hid (below_step (show Below w.heap.size w _ by repeat (first | exact Below.refl _ _ | apply below_alloc)) hb1); have z0 := cell_of_one (blk_below P0.out hb1); have z2 := cell_of_one (blk_below P2.out hb1); have P31 := Lib.hid (blk_below P3.out hb1); clear hb1)
   | (go_at_call 35; (refine (impl_TermOk.calls K2 n A2 c2 l2 true _ (Kd.C_below HC2.out HB1.out) hc2 HK2.out).mono ?_); rintro e W2 ⟨rfl, hb2⟩; have HB2 := Lib.hid (below_step HB1.out hb2); have P32 := blk_below P31.out hb2; have y1 := (blk_cell P32 1).trans rfl; clear hb2 P32))
  go_ret
  exact ⟨rfl, HB2.out⟩
 -- FURTHER
 have d1 : decide (15 < (l3_1.length : Int)) = false := decide_eq_false (by omega)
 by_cases hf : 0 < l3_1.length ∧ a3_0 ≠ 0
 ·have hrf : r = false := by
   cases r with
   | false => rfl
   | true => exact absurd ((hdec.1 rfl).2.2.2.1 hf.1) hf.2
  subst hrf
  have d2 : decide (0 < (l3_1.length : Int)) = true := decide_eq_true (by omega)
  have d3 : (a3_0 != 0) = true := bne_iff_ne.mpr hf.2
  clear hdec h64
  go_enter Tryd.func10, Tryd.ntmps10
  go_wp2_with (first
   | (go_at_call 34; (refine (impl_StoryOk.calls K n A1 c1 l1 true _ (Kd.C_below HC1.out (by repeat (first | exact Below.refl _ _ | apply below_alloc))) hc1 HK.out).mono ?_); rintro e W1 ⟨rfl, hb1⟩; have HB1 := Lib.hid (below_step (show Below w.heap.size w _ by repeat (first | exact Below.refl _ _ | apply below_alloc)) hb1); have z0 := cell_of_one (blk_below P0.out hb1); have z2 := cell_of_one (blk_below P2.out hb1); have P31 := Lib.hid (blk_below P3.out hb1); have HW1 := Lib.hid hb1; clear hb1)
   | (go_at_call 35; (refine (impl_TermOk.calls K2 n A2 c2 l2 true _ (Kd.C_below HC2.out HB1.out) hc2 HK2.out).mono ?_); rintro e W2 ⟨rfl, hb2⟩; have HB2 := Lib.hid (below_step HB1.out hb2); have P32 := blk_below P31.out hb2; have y1 := (blk_cell P32 1).trans rfl; have y0 := (blk_cell P32 0).trans rfl; have HW2 := Lib.hid (below_step HW1.out hb2); clear hb2 P32))
  go_ret
  exact ⟨rfl, HB2.out⟩
 have TT : ∀ W1, Below (M.prfW n l1.length A1 c1 l2.length A2 c2 a3_0 l3_1.length A3_1 c3_1 w).heap.size (M.prfW n l1.length A1 c1 l2.length A2 c2 a3_0 l3_1.length A3_1 c3_1 w) W1 →
   Calls Tryd.prog 36 #[.int .i64 a3_0, .int .i64 (-1), .int .i64 0, .int .i64 0, M.ptr w.heap.size, M.ptr (w.heap.size + 1), M.ptr (w.heap.size + 1 + 1), M.ptr (w.heap.size + 1 + 1 + 1), M.ptr (W1.heap.size + 1), M.ptr (W1.heap.size + 1 + 1)] (M.prfW2 l3_1.length w.heap.size (w.heap.size + 1) (w.heap.size + 1 + 1) (w.heap.size + 1 + 1 + 1) W1)
    (M.Chkd n l1 A1 c1 l2 A2 c2 a3_0 l3_1 A3_1 c3_1 w.heap.size (w.heap.size + 1) (w.heap.size + 1 + 1) (w.heap.size + 1 + 1 + 1) (W1.heap.size + 1) (W1.heap.size + 1 + 1) W1.heap.size w (M.prfW2 l3_1.length w.heap.size (w.heap.size + 1) (w.heap.size + 1 + 1) (w.heap.size + 1 + 1 + 1) W1) (Q.chkI l3_1 n (M.clQ n l1 l2) (l3_1.length + 2) a3_0 (-1) 0 0 (List.replicate l3_1.length false))) := fun W1 hb =>
  M.chk_calls HC1.out hc1 HC2.out hc2 HC3.out hc3_1 hS hT h64.2.2 (l3_1.length + 2) a3_0 (-1) 0 0 (List.replicate l3_1.length false) _ (by omega) (by omega) (by omega) h64.2.1 (fun _ _ => by omega) (M.CE.start hl hb)
 obtain ⟨⟨v, cm⟩, hvc⟩ : ∃ x, Q.chkI l3_1 n (M.clQ n l1 l2) (l3_1.length + 2) a3_0 (-1) 0 0 (List.replicate l3_1.length false) = x := ⟨_, rfl⟩
 have hfin : (v = false → r = false) ∧ (v = true → ∀ cb : Bool, (cb = true ↔ false ∈ cm) → r = !cb) := by
  have hok : r = true ↔ v = true ∧ ∀ b ∈ cm, b = true := by
   rw [hdec]
   unfold M.PrfOk Q.okI
   rw [Int.toNat_natCast, hvc]
   constructor
   ·exact fun h => h.2.2.2.2
   ·refine fun h => ⟨hS, hT, hl, fun h0 => ?_, h⟩
    exact Classical.byContradiction fun h1 => hf ⟨h0, h1⟩
  constructor
  ·intro hv
   cases r with
   | false => rfl
   | true => rw [(hok.1 rfl).1] at hv; cases hv
  ·intro hv cb hcb
   cases cb with
   | true =>
    cases r with
    | false => rfl
    | true => have := (hok.1 rfl).2 false (hcb.1 rfl); cases this
   | false => exact hok.2 ⟨hv, fun b hb => by
     cases b with
     | true => rfl
     | false => have := hcb.2 hb; cases this⟩
 simp only [hvc] at TT
 obtain ⟨i0, hi, hz0, hz1, hz2⟩ := info_parts (show (Tryd.prog.info? 4).map (fun i => (i.zero, i.size, i.bytes)) = some (some (.bool false), 1, 1) by kernel_rfl)
 have hmk : ∀ W : World, (Instr.makeSlice 63 (.int .i64 (l3_1.length : Int)) (.int .i64 (l3_1.length : Int))).run Tryd.prog W = .ok (.slice (some ⟨W.heap.size, 0, none⟩) l3_1.length l3_1.length) (W.alloc (.cells (madeCells #[.bool false] l3_1.length) 4)) := fun W => by
  have := run_makeSlice (P := Tryd.prog) (w := W) 63 4 i0 (.bool false) Tryd.underlying63 hi hz0 .i64 .i64 (l3_1.length : Int) (l3_1.length : Int) (by omega) (by omega) (by rw [hz1, Int.toNat_natCast]; omega) (by rw [hz2]; omega) (by omega)
  rw [hz1, Int.toNat_natCast, Nat.mul_one] at this
  exact this
 clear hi hz0 hz1 hz2 i0
 clear hvc hdec h64
 by_cases hz : 0 < l3_1.length
 ·have hf0 : a3_0 = 0 := Classical.byContradiction fun h1 => hf ⟨hz, h1⟩
  clear hf
  have d2 : decide (0 < (l3_1.length : Int)) = true := decide_eq_true (by omega)
  have d3 : (a3_0 != 0) = false := by rw [hf0]; rfl
  clear hf0
  have d2n : decide (0 < l3_1.length) = true := decide_eq_true hz
  go_enter Tryd.func10, Tryd.ntmps10
  go_upto_region 6 with (first
   | (go_at_call 34; (refine (impl_StoryOk.calls K n A1 c1 l1 true _ (Kd.C_below HC1.out (by repeat (first | exact Below.refl _ _ | apply below_alloc))) hc1 HK.out).mono ?_); rintro e W1 ⟨rfl, hb1⟩; have HB1 := Lib.hid (below_step (show Below w.heap.size w _ by repeat (first | exact Below.refl _ _ | apply below_alloc)) hb1); have z0 := cell_of_one (blk_below P0.out hb1); have z2 := cell_of_one (blk_below P2.out hb1); have P31 := Lib.hid (blk_below P3.out hb1); have HW1 := Lib.hid hb1; clear hb1)
   | (go_at_call 35; (refine (impl_TermOk.calls K2 n A2 c2 l2 true _ (Kd.C_below HC2.out HB1.out) hc2 HK2.out).mono ?_); rintro e W2 ⟨rfl, hb2⟩; have HB2 := Lib.hid (below_step HB1.out hb2); have P32 := blk_below P31.out hb2; have y1 := (blk_cell P32 1).trans rfl; have y0 := (blk_cell P32 0).trans rfl; have HW2 := Lib.hid (below_step HW1.out hb2); clear hb2 P32))
  have T := Lib.hid (TT W2 HW2.out)
  obtain ⟨W3, hW3⟩ : ∃ W3, M.prfW2 l3_1.length w.heap.size (w.heap.size + 1) (w.heap.size + 1 + 1) (w.heap.size + 1 + 1 + 1) W2 = W3 := ⟨_, rfl⟩
  have E3 := M.CE.start hl HW2.out
  rw [hW3] at T E3
  have q5 := cell_of_one E3.hk
  have q0 : W3.cell? ⟨w.heap.size + 1 + 1 + 1, 0, none⟩ = some (.int .i64 a3_0) := (blk_cell E3.hq 0).trans rfl
  unfold M.prfW2 at hW3
  rw [hW3]
  clear hW3 E3 P0 P2 P3 P31 z0 z2 y0 y1
  cases v with
  | false =>
   have HFF := Lib.hid (hfin.1 rfl)
   clear hfin
   go_wp2_with (go_at_call 36; (refine T.out.mono ?_); rintro e W6 ⟨rfl, E6, K6⟩)
   go_ret
   obtain rfl := HFF.out
   exact ⟨rfl, E6.hb⟩
  | true =>
   have HFF := Lib.hid (hfin.2 rfl)
   clear hfin
   go_wp2_with (first
    | (go_at_call 36; (refine T.out.mono ?_); rintro e W6 ⟨rfl, E6_, K6⟩; have q4 := cell_of_one E6_.hc; obtain ⟨cb, hcb, T75⟩ := E6_.contains hl; have T75h := Lib.hid T75; have E6 := Lib.hid E6_; have hcbr := Lib.hid (HFF.out cb hcb); clear E6_ K6 T75 hcb)
    | (go_at_call 38; (refine T75h.out.mono ?_); rintro e W7 ⟨rfl, hd7⟩; have HD7 := Lib.hid hd7; clear hd7))
   go_ret
   obtain rfl := hcbr.out
   exact ⟨rfl, below_step E6.out.hb HD7.out⟩
 ·clear hf
  have d2 : decide (0 < (l3_1.length : Int)) = false := decide_eq_false (by omega)
  go_enter Tryd.func10, Tryd.ntmps10
  go_upto_region 6 with (first
   | (go_at_call 34; (refine (impl_StoryOk.calls K n A1 c1 l1 true _ (Kd.C_below HC1.out (by repeat (first | exact Below.refl _ _ | apply below_alloc))) hc1 HK.out).mono ?_); rintro e W1 ⟨rfl, hb1⟩; have HB1 := Lib.hid (below_step (show Below w.heap.size w _ by repeat (first | exact Below.refl _ _ | apply below_alloc)) hb1); have z0 := cell_of_one (blk_below P0.out hb1); have z2 := cell_of_one (blk_below P2.out hb1); have P31 := Lib.hid (blk_below P3.out hb1); have HW1 := Lib.hid hb1; clear hb1)
   | (go_at_call 35; (refine (impl_TermOk.calls K2 n A2 c2 l2 true _ (Kd.C_below HC2.out HB1.out) hc2 HK2.out).mono ?_); rintro e W2 ⟨rfl, hb2⟩; have HB2 := Lib.hid (below_step HB1.out hb2); have P32 := blk_below P31.out hb2; have y1 := (blk_cell P32 1).trans rfl; have y0 := (blk_cell P32 0).trans rfl; have HW2 := Lib.hid (below_step HW1.out hb2); clear hb2 P32))
  have T := Lib.hid (TT W2 HW2.out)
  obtain ⟨W3, hW3⟩ : ∃ W3, M.prfW2 l3_1.length w.heap.size (w.heap.size + 1) (w.heap.size + 1 + 1) (w.heap.size + 1 + 1 + 1) W2 = W3 := ⟨_, rfl⟩
  have E3 := M.CE.start hl HW2.out
  rw [hW3] at T E3
  have q5 := cell_of_one E3.hk
  have q0 : W3.cell? ⟨w.heap.size + 1 + 1 + 1, 0, none⟩ = some (.int .i64 a3_0) := (blk_cell E3.hq 0).trans rfl
  unfold M.prfW2 at hW3
  rw [hW3]
  clear hW3 E3 P0 P2 P3 P31 z0 z2 y0 y1
  cases v with
  | false =>
   have HFF := Lib.hid (hfin.1 rfl)
   clear hfin
   go_wp2_with (go_at_call 36; (refine T.out.mono ?_); rintro e W6 ⟨rfl, E6, K6⟩)
   go_ret
   obtain rfl := HFF.out
   exact ⟨rfl, E6.hb⟩
  | true =>
   have HFF := Lib.hid (hfin.2 rfl)
   clear hfin
   go_wp2_with (first
    | (go_at_call 36; (refine T.out.mono ?_); rintro e W6 ⟨rfl, E6_, K6⟩; have q4 := cell_of_one E6_.hc; obtain ⟨cb, hcb, T75⟩ := E6_.contains hl; have T75h := Lib.hid T75; have E6 := Lib.hid E6_; have hcbr := Lib.hid (HFF.out cb hcb); clear E6_ K6 T75 hcb)
    | (go_at_call 38; (refine T75h.out.mono ?_); rintro e W7 ⟨rfl, hd7⟩; have HD7 := Lib.hid hd7; clear hd7))
   go_ret
   obtain rfl := hcbr.out
   exact ⟨rfl, below_step E6.out.hb HD7.out⟩
end Go.Proofs.YtcaogllnbpmcgaaDoor.P

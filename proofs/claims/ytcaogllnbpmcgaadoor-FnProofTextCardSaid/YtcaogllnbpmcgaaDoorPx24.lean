/- Go's functions come to just the answers of the Lean functions told here. -/
import Derived.Test.YtcaogllnbpmcgaaDoorPx22
import Derived.Test.YtcaogllnbpmcgaaDoorPx23
namespace Go.Proofs.YtcaogllnbpmcgaaDoor.P
open Go.RowKit Go.Proofs.YtcaogllnbpmcgaaDoorW.PrintWords Go.Proofs.YtcaogllnbpmcgaaDoorW.PrintLast Go.Proofs.YtcaogllnbpmcgaaDoorW.PrintMore
attribute [local go_sem] max2_int min2_int max_two min_two max_three min_three max_four min_four
set_option linter.unusedVariables false
set_option linter.unusedSimpArgs false
mutual
def spec_ProofOk.j0 : Nat → Int → List (S79) → List (S82) → Bool → Int → List (S68) → Option (Bool)
 | 0, _, _, _, _, _, _ => none
 | k + 1, x0, x1, x2, x42, x447000, x447001 => if x42 = true then (some false) else ((spec_l11Nothing.f k x0).bind fun t449 => ((spec_l11Checks.f k x0 x1 x2 x447000 x447001 x447000 t449).bind fun bt452 => (if bt452.2 = true then (if bt452.1 = (x447001.length : Int) then ((spec_l11Once.f k x447000 x447001).bind fun t454 => (spec_ProofOk.j1 k t454)) else (spec_ProofOk.j1 k false)) else (spec_ProofOk.j1 k false))))
def spec_ProofOk.j1 : Nat → Bool → Option (Bool)
 | 0, _ => none
 | k + 1, x8 => some x8
end
def spec_ProofOk.f (k : Nat) (a0 : Int) (l1 : List (S79)) (l2 : List (S82)) (a3_0 : Int) (l3_1 : List (S68)) : Option (Bool) := (spec_StoryOk.f k a0 l1).bind fun t447 => (if t447 = true then ((spec_TermOk.f k a0 l2).bind fun t448 => (if t448 = true then (if (l3_1.length : Int) > 15 then (spec_ProofOk.j0 k a0 l1 l2 true a3_0 l3_1) else (if a3_0 > 0 then (spec_ProofOk.j0 k a0 l1 l2 true a3_0 l3_1) else (if a3_0 = 0 then (spec_ProofOk.j0 k a0 l1 l2 ((l3_1.length : Int) == 0) a3_0 l3_1) else (spec_ProofOk.j0 k a0 l1 l2 false a3_0 l3_1)))) else (spec_ProofOk.j0 k a0 l1 l2 true a3_0 l3_1))) else (spec_ProofOk.j0 k a0 l1 l2 true a3_0 l3_1))
def spec_ProofOk.T3 : Bool × List (List Nat × List Nat) := (true, [([], []), ([], []), ([], []), ([], []), ([], []), ([4], [4]), ([], []), ([6], [6]), ([0, 1, 2, 3, 5, 7, 7], [0, 1, 2, 3, 5, 7]), ([8], [8]), ([9], [9]), ([9], [9]), ([10, 8, 0, 1, 2, 3, 4, 5, 6, 7, 8, 9, 10], [10]), ([11, 12, 0, 1, 2, 3, 4, 5, 6, 7, 8, 9, 10, 11, 12], [11])])
def spec_ProofOk.B3 : List Nat := [0, 0, 0, 0, 0, 16, 0, 64, 255, 511, 1023, 1023, 2047, 8191]
theorem spec_ProofOk.tab3 : rtab .any (opsOf Tryd.f32 3) = spec_ProofOk.T3 := by kernel_rfl
theorem spec_ProofOk.bits3 : waitsOk spec_ProofOk.T3.2 spec_ProofOk.B3 = true := by kernel_rfl
set_option maxHeartbeats 8000000 in
set_option maxRecDepth 100000 in
theorem spec_ProofOk.calls (k : Nat) (a0 : Int) (A1 : Option Addr) (c1 : Nat) (l1 : List (S79)) (A2 : Option Addr) (c2 : Nat) (l2 : List (S82)) (a3_0 : Int) (A3_1 : Option Addr) (c3_1 : Nat) (l3_1 : List (S68)) (r : Bool) (w : World) (hr1 : Kd.C k79 w A1 l1.length l1) (hc1 : l1.length ≤ c1) (hr2 : Kd.C k82 w A2 l2.length l2) (hc2 : l2.length ≤ c2) (hr3_1 : Kd.C k68 w A3_1 l3_1.length l3_1) (hc3_1 : l3_1.length ≤ c3_1) (h : spec_ProofOk.f k a0 l1 l2 a3_0 l3_1 = some r) :
  Calls Tryd.prog 32 #[.int .i64 a0, .slice A1 l1.length c1, .slice A2 l2.length c2, .agg #[.int .i64 a3_0, .slice A3_1 l3_1.length c3_1]] w fun e w' => e = .returned (.bool r) ∧ Below w.heap.size w w' := by
 have hu27 := Tryd.underlying27
 have HR1 := mk_ hr1
 have HC1 := mk_ hc1
 clear hr1 hc1
 have HR2 := mk_ hr2
 have HC2 := mk_ hc2
 clear hr2 hc2
 have HR3_1 := mk_ hr3_1
 have HC3_1 := mk_ hc3_1
 clear hr3_1 hc3_1
 have HB := mk_ (Below.refl w.heap.size w)
 unfold spec_ProofOk.f at h
 have H := h
 clear h
 have HC5 := mk_ H
 clear H
 go_enter Tryd.func32, Tryd.ntmps32
 go_upto_region 1 with (first | ((with_reducible refine gate_dst (N := 7) rfl ?_); (try (refine gate_guard (by rfl) ?_; dsimp only)); refine bx_ 7 #[.int .i64 a3_0, .slice A3_1 l3_1.length c3_1] 27 ?_; intro gb446 hg w6 hbox hb; have BK446 := mk_ (hbox); have GW446 := gm_ hg HB.out; have GE446 := gm_ hg HB.out; replace HB := mk_ (below_step (below_at HB.out) hb); clear hb hbox hg))
 (try simp only [Act.put, z0_, z1_, z2_])
 go_cut [42] (fun v42 wc => ∃ (kq : Nat) (x42_4 : Bool), v42 = .bool x42_4 ∧ Aside0 (spec_ProofOk.j0 kq a0 l1 l2 x42_4 a3_0 l3_1 = some r) ∧ Aside0 (kq ≤ k) ∧ Aside0 (wc.heap[gb446]? = some (.cells #[.int .i64 a3_0, (.slice A3_1 l3_1.length c3_1)] 27 (0, 0))) ∧ Aside0 (Below w.heap.size w wc))
 case first =>
  have H := HC5.out
  clear HC5
  revert H; refine bd_ fun t447 A7 H => ?_
  try dsimp only at H
  revert H; refine bi_ ?_ ?_ <;> rintro rfl H
  ·have H' := mk_ H
   clear H
   go_wp2_with (first | ((with_reducible refine gate_callee (f := 57) rfl ?_); refine gc_ 57 (some 13) Tryd.func57 #[.int .i64 a0, .slice A1 l1.length c1] ?_; (with_reducible refine (spec_StoryOk.calls k a0 _ _ l1 false _ ?side1 ?side2 A7.out).mono ?_); (case side1 => exact Kd.C_below (Kd.C_below HR1.out HB.out) lt_); (case side2 => exact HC1.out); rintro e w23 ⟨rfl, hb⟩; refine ⟨_, rfl, ?_⟩; replace BK446 := mk_ (blk_at BK446.out hb); replace HB := mk_ (below_step (at_ HB.out) hb); (try clear hb)))
   go_meet
   case rel => exact ⟨_, (true), sm_, H', ⟨by first | omega | exact Nat.le_refl _⟩, ⟨by refine bs_ ?_; exact BK446.out⟩, ⟨at_ HB.out⟩⟩
  revert H; refine bd_ fun t448 A9 H => ?_
  try dsimp only at H
  revert H; refine bi_ ?_ ?_ <;> rintro rfl H
  ·have H' := mk_ H
   clear H
   go_wp2_with (first | ((with_reducible refine gate_callee (f := 57) rfl ?_); refine gc_ 57 (some 13) Tryd.func57 #[.int .i64 a0, .slice A1 l1.length c1] ?_; (with_reducible refine (spec_StoryOk.calls k a0 _ _ l1 true _ ?side1 ?side2 A7.out).mono ?_); (case side1 => exact Kd.C_below (Kd.C_below HR1.out HB.out) lt_); (case side2 => exact HC1.out); rintro e w22 ⟨rfl, hb⟩; refine ⟨_, rfl, ?_⟩; replace BK446 := mk_ (blk_at BK446.out hb); replace HB := mk_ (below_step (at_ HB.out) hb); (try clear hb)) | (go_at_call 58; (with_reducible refine (spec_TermOk.calls k a0 _ _ l2 false _ ?side1 ?side2 A9.out).mono ?_); (case side1 => exact Kd.C_below (Kd.C_below HR2.out HB.out) lt_); (case side2 => exact HC2.out); rintro e w' ⟨rfl, ⟨nd, rfl⟩⟩))
   go_meet
   case rel => exact ⟨_, (true), sm_, H', ⟨by first | omega | exact Nat.le_refl _⟩, ⟨by refine bs_ ?_; exact BK446.out⟩, ⟨at_ HB.out⟩⟩
  revert H; refine it_ (fun c11 H => ?_) fun c11 H => ?_
  ·have c11b0 : decide (15 < (l3_1.length : Int)) = true := decide_eq_true c11
   have c11b1 : decide (15 < l3_1.length) = true := decide_eq_true (by omega)
   clear c11
   (first | rw [c11b0] | (simp only [i64_w, i32_w]; rw [c11b0]) | skip)
   have H' := mk_ H
   clear H
   go_wp2_with (first | ((with_reducible refine gate_callee (f := 57) rfl ?_); refine gc_ 57 (some 13) Tryd.func57 #[.int .i64 a0, .slice A1 l1.length c1] ?_; (with_reducible refine (spec_StoryOk.calls k a0 _ _ l1 true _ ?side1 ?side2 A7.out).mono ?_); (case side1 => exact Kd.C_below (Kd.C_below HR1.out HB.out) lt_); (case side2 => exact HC1.out); rintro e w12 ⟨rfl, hb⟩; refine ⟨_, rfl, ?_⟩; replace BK446 := mk_ (blk_at BK446.out hb); replace HB := mk_ (below_step (at_ HB.out) hb); (try clear hb)) | (go_at_call 58; (with_reducible refine (spec_TermOk.calls k a0 _ _ l2 true _ ?side1 ?side2 A9.out).mono ?_); (case side1 => exact Kd.C_below (Kd.C_below HR2.out HB.out) lt_); (case side2 => exact HC2.out); rintro e w' ⟨rfl, ⟨nd, rfl⟩⟩; have hcz13_0 := blk_cell BK446.out 0; have hcz13_1 := blk_cell BK446.out 1; have hfz13_0 := blk_frozen BK446.out 0; have hfz13_1 := blk_frozen BK446.out 1))
   go_meet
   case rel => exact ⟨_, (true), sm_, H', ⟨by first | omega | exact Nat.le_refl _⟩, ⟨by refine bs_ ?_; exact BK446.out⟩, ⟨at_ HB.out⟩⟩
  have c11b0 : decide (15 < (l3_1.length : Int)) = false := decide_eq_false c11
  have c11b1 : decide (15 < l3_1.length) = false := decide_eq_false (by omega)
  clear c11
  (first | rw [c11b0] | (simp only [i64_w, i32_w]; rw [c11b0]) | skip)
  revert H; refine it_ (dt_g fun c14b0 H => ?_) (df_g fun c14b0 H => ?_)
  ·have H' := mk_ H
   clear H
   go_wp2_with (first | ((with_reducible refine gate_callee (f := 57) rfl ?_); refine gc_ 57 (some 13) Tryd.func57 #[.int .i64 a0, .slice A1 l1.length c1] ?_; (with_reducible refine (spec_StoryOk.calls k a0 _ _ l1 true _ ?side1 ?side2 A7.out).mono ?_); (case side1 => exact Kd.C_below (Kd.C_below HR1.out HB.out) lt_); (case side2 => exact HC1.out); rintro e w15 ⟨rfl, hb⟩; refine ⟨_, rfl, ?_⟩; replace BK446 := mk_ (blk_at BK446.out hb); replace HB := mk_ (below_step (at_ HB.out) hb); (try clear hb)) | (go_at_call 58; (with_reducible refine (spec_TermOk.calls k a0 _ _ l2 true _ ?side1 ?side2 A9.out).mono ?_); (case side1 => exact Kd.C_below (Kd.C_below HR2.out HB.out) lt_); (case side2 => exact HC2.out); rintro e w' ⟨rfl, ⟨nd, rfl⟩⟩; have hcz16_0 := blk_cell BK446.out 0; have hcz16_1 := blk_cell BK446.out 1; have hfz16_0 := blk_frozen BK446.out 0; have hfz16_1 := blk_frozen BK446.out 1))
   go_meet
   case rel => exact ⟨_, (true), sm_, H', ⟨by first | omega | exact Nat.le_refl _⟩, ⟨by refine bs_ ?_; exact BK446.out⟩, ⟨at_ HB.out⟩⟩
  revert H; refine it_ (qt_ fun c17b0 c17b1 H => ?_) (qfk_ fun c17 c17b0 c17b1 H => ?_)
  ·have H' := mk_ H
   clear H
   go_wp2_with (first | ((with_reducible refine gate_callee (f := 57) rfl ?_); refine gc_ 57 (some 13) Tryd.func57 #[.int .i64 a0, .slice A1 l1.length c1] ?_; (with_reducible refine (spec_StoryOk.calls k a0 _ _ l1 true _ ?side1 ?side2 A7.out).mono ?_); (case side1 => exact Kd.C_below (Kd.C_below HR1.out HB.out) lt_); (case side2 => exact HC1.out); rintro e w18 ⟨rfl, hb⟩; refine ⟨_, rfl, ?_⟩; replace BK446 := mk_ (blk_at BK446.out hb); replace HB := mk_ (below_step (at_ HB.out) hb); (try clear hb)) | (go_at_call 58; (with_reducible refine (spec_TermOk.calls k a0 _ _ l2 true _ ?side1 ?side2 A9.out).mono ?_); (case side1 => exact Kd.C_below (Kd.C_below HR2.out HB.out) lt_); (case side2 => exact HC2.out); rintro e w' ⟨rfl, ⟨nd, rfl⟩⟩; have hcz19_0 := blk_cell BK446.out 0; have hcz19_1 := blk_cell BK446.out 1; have hfz19_0 := blk_frozen BK446.out 0; have hfz19_1 := blk_frozen BK446.out 1))
   go_meet
   case rel => exact ⟨_, (((l3_1.length : Int) == 0)), sm_, H', ⟨by first | omega | exact Nat.le_refl _⟩, ⟨by refine bs_ ?_; exact BK446.out⟩, ⟨at_ HB.out⟩⟩
  have H' := mk_ H
  clear H
  go_wp2_with (first | ((with_reducible refine gate_callee (f := 57) rfl ?_); refine gc_ 57 (some 13) Tryd.func57 #[.int .i64 a0, .slice A1 l1.length c1] ?_; (with_reducible refine (spec_StoryOk.calls k a0 _ _ l1 true _ ?side1 ?side2 A7.out).mono ?_); (case side1 => exact Kd.C_below (Kd.C_below HR1.out HB.out) lt_); (case side2 => exact HC1.out); rintro e w20 ⟨rfl, hb⟩; refine ⟨_, rfl, ?_⟩; replace BK446 := mk_ (blk_at BK446.out hb); replace HB := mk_ (below_step (at_ HB.out) hb); (try clear hb)) | (go_at_call 58; (with_reducible refine (spec_TermOk.calls k a0 _ _ l2 true _ ?side1 ?side2 A9.out).mono ?_); (case side1 => exact Kd.C_below (Kd.C_below HR2.out HB.out) lt_); (case side2 => exact HC2.out); rintro e w' ⟨rfl, ⟨nd, rfl⟩⟩; have hcz21_0 := blk_cell BK446.out 0; have hcz21_1 := blk_cell BK446.out 1; have hfz21_0 := blk_frozen BK446.out 0; have hfz21_1 := blk_frozen BK446.out 1))
  go_meet
  case rel => exact ⟨_, (false), sm_, H', ⟨by first | omega | exact Nat.le_refl _⟩, ⟨by refine bs_ ?_; exact BK446.out⟩, ⟨at_ HB.out⟩⟩
 clear HC5
 try clear c1
 try clear c2
 try clear p2
 try clear c3
 try clear c5
 try clear c8
 try clear c10
 try clear c11
 try clear c11b0
 try clear c11b1
 try clear c14
 try clear c14b0
 try clear c17
 try clear c17b0
 try clear c17b1
 try clear hcz13_0
 try clear hcz13_1
 try clear hcz16_0
 try clear hcz16_1
 try clear hcz19_0
 try clear hcz19_1
 try clear hcz21_0
 try clear hcz21_1
 try clear hfz13_0
 try clear hfz13_1
 try clear hfz16_0
 try clear hfz16_1
 try clear hfz19_0
 try clear hfz19_1
 try clear hfz21_0
 try clear hfz21_1
 obtain ⟨kq, x42_4, rfl, HA, HJ4, BK446, HB⟩ := hcut
 cases kq with
 | zero => exact absurd HA.out (by simp [spec_ProofOk.j0])
 | succ kj4 =>
  have H := HA.out
  clear HA
  simp only [spec_ProofOk.j0] at H
  revert H; refine ib_ ?_ ?_ <;> rintro rfl H
  ·obtain rfl := Option.some.inj H
   go_wp2
   go_ret
   exact ⟨er_, at_ HB.out⟩
  revert H; refine bd_ fun t449 A25 H => ?_
  try dsimp only at H
  replace H := bm_ H; obtain ⟨⟨t452, t453⟩, A26, H⟩ := H
  try dsimp only at H
  have HC27 := mk_ H
  clear H
  try go_wp2
  replace BK446 := mk_ (blk_drew BK446.out)
  replace HB := mk_ (below_drew1 HB.out)
  refine start_ (n := 14) (S := fun w' => w'.cell? ⟨gb446, 0, none⟩ = some (.int .i64 a3_0) ∧ w'.cell? ⟨gb446, 1, none⟩ = some (.slice A3_1 l3_1.length c3_1)) (ds := []) #[false, false, false, false, false, false, false, false, false, false, false, false, false, false] (by kernel_rfl) rfl rfl ⟨(blk_cell BK446.out 0).trans rfl, (blk_cell BK446.out 1).trans rfl⟩ (fun hHeld => ?_); refine with_tabW spec_ProofOk.tab3 spec_ProofOk.bits3 (fun HT_ HW_ => ?_)
  generalize wc.drew = w28 at BK446 HB hHeld ⊢
  refine pus_ 0 (some 44) (ao_ HT_) ?_
  refine pus_ 1 (some 45) (ao_ HT_) ?_
  refine pus_ 2 (some 46) (ao_ HT_) ?_
  refine pus_ 4 (some 48) (ao_ HT_) ?_
  refine pus_ 6 (some 50) (ao_ HT_) ?_
  refine tas_ 3 (some 47) (to_ HT_ HW_) hHeld ?_
  refine tas_ 5 (some 49) (to_ HT_ HW_) hHeld ?_
  refine ons_ 7 (some 51) (oo_ HT_) (fun K hK => ?_)
  refine goes_ Tryd.func60 (by kernel_rfl) rfl #[.int .i64 a0] (by rfl) rfl rfl gl_ ?_
  with_reducible refine (spec_l11Nothing.calls kj4 a0 t449 _ A25.out).mono ?_
  rintro e w29 ⟨v450, rfl, ho0, hb⟩
  refine ⟨_, rfl, ?_⟩
  have HO451 := mk_ (Kd.R_lower ho0 (below_size (at_ HB.out)))
  replace BK446 := mk_ (blk_at BK446.out hb)
  replace HB := mk_ (below_step (at_ HB.out) hb)
  (try clear hb)
  (try clear hb2)
  (try clear hk)
  (try clear hi)
  (try clear ho0)
  obtain ⟨Ao30, co30, eo30⟩ := Kd.R_slice HO451.out
  (first | subst eo30 | (injection eo30 with f1_ f2_ f3_; have f4_ := f1_.symm; have f5_ := f3_.symm; clear f1_ f2_ f3_; subst f4_; subst f5_))
  refine hK.out _ _ ⟨(blk_cell BK446.out 0).trans rfl, (blk_cell BK446.out 1).trans rfl⟩ (fun hHeld => ?_)
  clear hK K
  refine nor_ (some 51) ?_
  refine ons_ 8 (some 52) (oo_ HT_) (fun K hK => ?_)
  refine goes_ Tryd.func59 (by kernel_rfl) rfl #[.int .i64 a0, .slice A1 l1.length c1, .slice A2 l2.length c2, .agg #[.int .i64 a3_0, .slice A3_1 l3_1.length c3_1], .int .i64 a3_0, .slice Ao30 t449.length co30] (by rfl) rfl rfl gl_ ?_
  with_reducible refine (spec_l11Checks.calls kj4 a0 _ _ l1 _ _ l2 a3_0 _ _ l3_1 a3_0 _ _ t449 t452 t453 _ ?side1 ?side2 ?side3 ?side4 ?side5 ?side6 ?side7 ?side8 A26.out).mono ?_
  (case side1 => exact Kd.C_below (Kd.C_below HR1.out HB.out) lt_)
  (case side2 => exact HC1.out)
  (case side3 => exact Kd.C_below (Kd.C_below HR2.out HB.out) lt_)
  (case side4 => exact HC2.out)
  (case side5 => exact Kd.C_below (Kd.C_below HR3_1.out HB.out) lt_)
  (case side6 => exact HC3_1.out)
  (case side7 => exact Kd.C_below (Kd.R_reads' HO451.out).2.2 lt_)
  (case side8 => exact (Kd.R_reads' HO451.out).2.1)
  rintro e w31 ⟨rfl, hb⟩
  refine ⟨_, rfl, ?_⟩
  replace BK446 := mk_ (blk_at BK446.out hb)
  replace HB := mk_ (below_step (at_ HB.out) hb)
  (try clear HO451)
  (try clear hb)
  (try clear hb2)
  (try clear hk)
  (try clear hi)
  refine hK.out _ _ ⟨(blk_cell BK446.out 0).trans rfl, (blk_cell BK446.out 1).trans rfl⟩ (fun hHeld => ?_)
  clear hK K
  refine nor_ (some 52) ?_
  refine pus_ 9 (some 43) (ao_ HT_) ?_
  refine pus_ 10 (some 53) (ao_ HT_) ?_
  refine pus_ 11 (some 54) (ao_ HT_) ?_
  refine pus_ 12 (some 9) (ao_ HT_) ?_
  refine pus_ 13 (some 10) (ao_ HT_) ?_
  refine done_ (done_of HT_.out (by kernel_rfl)) ?_
  go_upto_region 4 with (fail)
  go_cut [8] (fun v8 wc => ∃ (kq : Nat) (x8_26 : Bool), v8 = .bool x8_26 ∧ Aside0 (spec_ProofOk.j1 kq x8_26 = some r) ∧ Aside0 (kq ≤ kj4) ∧ Aside0 (wc.heap[gb446]? = some (.cells #[.int .i64 a3_0, (.slice A3_1 l3_1.length c3_1)] 27 (0, 0))) ∧ Aside0 (Below w.heap.size w wc))
  case first =>
   have H := HC27.out
   clear HC27
   revert H; refine bi_ ?_ ?_ <;> rintro rfl H
   ·have H' := mk_ H
    clear H
    go_wp2
    go_meet
    case rel => exact ⟨_, (false), sm_, H', ⟨by have := HJ4.out; first | omega | exact Nat.le_refl _⟩, ⟨by refine bs_ ?_; exact BK446.out⟩, ⟨at_ HB.out⟩⟩
   revert H; refine ti_ (qfk_ fun c33 c33b0 c33b1 H => ?_) (qt_ fun c33b0 c33b1 H => ?_)
   ·(first | rw [c33b0] | (simp only [i64_w, i32_w]; rw [c33b0]) | skip)
    have H' := mk_ H
    clear H
    have hcz37_0 := blk_cell BK446.out 0
    have hcz37_1 := blk_cell BK446.out 1
    have hfz37_0 := blk_frozen BK446.out 0
    have hfz37_1 := blk_frozen BK446.out 1
    go_wp2
    go_meet
    case rel => exact ⟨_, (false), sm_, H', ⟨by have := HJ4.out; first | omega | exact Nat.le_refl _⟩, ⟨by refine bs_ ?_; exact BK446.out⟩, ⟨at_ HB.out⟩⟩
   (first | rw [c33b0] | (simp only [i64_w, i32_w]; rw [c33b0]) | skip)
   replace H := Option.bind_eq_some_iff.mp H
   obtain ⟨t454, A340, H⟩ := H
   replace H : (spec_ProofOk.j1 kj4 t454) = some r := H
   have A34 := mk_ A340
   clear A340
   have H' := mk_ H
   clear H
   have hcz35_0 := blk_cell BK446.out 0
   have hcz35_1 := blk_cell BK446.out 1
   have hfz35_0 := blk_frozen BK446.out 0
   have hfz35_1 := blk_frozen BK446.out 1
   go_wp2_with (first | (go_at_call 61; (with_reducible refine (spec_l11Once.calls kj4 a3_0 _ _ l3_1 t454 _ ?side1 ?side2 A34.out).mono ?_); (case side1 => exact Kd.C_below (Kd.C_below HR3_1.out HB.out) lt_); (case side2 => exact HC3_1.out); rintro e w36 ⟨rfl, hb⟩; replace BK446 := mk_ (blk_at BK446.out hb); replace HB := mk_ (below_step (at_ HB.out) hb); (try clear HO451); (try clear hb)))
   go_meet
   case rel => exact ⟨_, (t454), sm_, H', ⟨by have := HJ4.out; first | omega | exact Nat.le_refl _⟩, ⟨by refine bs_ ?_; exact BK446.out⟩, ⟨at_ HB.out⟩⟩
  clear HC27
  try clear c1
  try clear c2
  try clear p2
  try clear c3
  try clear c5
  try clear c6
  try clear c8
  try clear c10
  try clear c11
  try clear c11b0
  try clear c11b1
  try clear c14
  try clear c14b0
  try clear c17
  try clear c17b0
  try clear c17b1
  try clear c24
  try clear c32
  try clear c33
  try clear c33b0
  try clear c33b1
  try clear hcz13_0
  try clear hcz13_1
  try clear hcz16_0
  try clear hcz16_1
  try clear hcz19_0
  try clear hcz19_1
  try clear hcz21_0
  try clear hcz21_1
  try clear hcz35_0
  try clear hcz35_1
  try clear hcz37_0
  try clear hcz37_1
  try clear hfz13_0
  try clear hfz13_1
  try clear hfz16_0
  try clear hfz16_1
  try clear hfz19_0
  try clear hfz19_1
  try clear hfz21_0
  try clear hfz21_1
  try clear hfz35_0
  try clear hfz35_1
  try clear hfz37_0
  try clear hfz37_1
  try clear p2
  obtain ⟨kq, x8_26, rfl, HA, HJ26, BK446, HB⟩ := hcut
  cases kq with
  | zero => exact absurd HA.out (by simp [spec_ProofOk.j1])
  | succ kj26 =>
   have H := HA.out
   clear HA
   simp only [spec_ProofOk.j1] at H
   obtain rfl := Option.some.inj H
   go_wp2
   go_ret
   exact ⟨er_, at_ HB.out⟩
def spec_l1Number.f : Nat → Int → Option (ByteArray)
 | 0, _ => none
 | k + 1, a0 => if a0 < 10 then (some (strOfNums (([(wrap64 (48 + (mx a0 0))) % 256] : List Int)))) else ((spec_l1Number.f k (wrap64 (Int.tdiv a0 10))).bind fun t458 => ((some (([(wrap64 (48 + (Int.tmod a0 10))) % 256] : List Int) : List Int)).bind fun y459 => (if t458.size + (strOfNums y459).size ≤ 9223372036854775807 then (some (t458 ++ (strOfNums y459))) else (none))))
def spec_l1Number.T3 : Bool × List (List Nat × List Nat) := (true, [([], []), ([0], [0]), ([1], [1]), ([], []), ([3], [3]), ([4], [4]), ([5], [5]), ([6], [6]), ([7], [7]), ([2, 8], [2, 8]), ([9, 2, 0, 1, 2, 3, 4, 5, 6, 7, 8, 9], [9])])
def spec_l1Number.B3 : List Nat := [0, 1, 3, 0, 8, 24, 56, 120, 248, 511, 1023]
theorem spec_l1Number.tab3 : rtab .any (opsOf Tryd.f62 3) = spec_l1Number.T3 := by kernel_rfl
theorem spec_l1Number.bits3 : waitsOk spec_l1Number.T3.2 spec_l1Number.B3 = true := by kernel_rfl
set_option maxHeartbeats 8000000 in
set_option maxRecDepth 100000 in
theorem spec_l1Number.calls (k : Nat) : ∀ (a0 : Int) (r : ByteArray) (w : World) (h : spec_l1Number.f k a0 = some r),
  Calls Tryd.prog 62 #[.int .i64 a0] w fun e w' => e = .returned (.string r) ∧ Below w.heap.size w w' := by
 induction k using Nat.strongRecOn with
 | _ k ih =>
 intro a0 r w h
 cases k with
 | zero => exact absurd h (by simp [spec_l1Number.f])
 | succ k =>
 simp only [spec_l1Number.f] at h
 have HB := mk_ (Below.refl w.heap.size w)
 have H : (if a0 < 10 then (some (strOfNums (([(wrap64 (48 + (mx a0 0))) % 256] : List Int)))) else ((spec_l1Number.f k (wrap64 (Int.tdiv a0 10))).bind fun t458 => ((some (([(wrap64 (48 + (Int.tmod a0 10))) % 256] : List Int) : List Int)).bind fun y459 => (if t458.size + (strOfNums y459).size ≤ 9223372036854775807 then (some (t458 ++ (strOfNums y459))) else (none))))) = some r := h
 clear h
 revert H; refine it_ (dt_ fun c2b0 H => ?_) (df_ fun c2b0 H => ?_)
 ·obtain ⟨ji3, hji3⟩ : ∃ j_ : Int, (mx a0 0) = j_ := ⟨_, rfl⟩
  first | rw [hji3] at H | simp only [hji3] at H
  (try (have hji3l : 0 ≤ ji3 := by (rw [← hji3]; unfold mx; (repeat' split) <;> omega)))
  (try (have hji3m : 0 ≤ ji3 := by omega))
  have hji3_ : (if a0 < 0 then 0 else a0) = ji3 := hji3
  obtain ⟨y455, hy455⟩ : ∃ y_ : List Int, y_ = (([(wrap64 (48 + (ji3))) % 256] : List Int)) := ⟨_, rfl⟩
  first | (replace H := bn_ hy455 H; try dsimp only at H) | rw [← hy455] at H
  have Ny455 := mk_ hy455
  clear hy455
  obtain rfl := Option.some.inj H
  go_enter Tryd.func62, Tryd.ntmps62
  go_wp2_with (first | ((with_reducible refine gate_dst (N := 9) rfl ?_); refine Kd.R_lit (Kd.int .u8) _ 5 ?hg (N := 9) ?hd (xs := ([(wrap64 (48 + (ji3))) % 256] : List Int)) (inner := [.int .u8 ((wrap64 (48 + (ji3))) % 256)]) (ok := fun _ => True) (okp := fun _ => True) ?hr ?hp (fun _ hk => hk) trivial (Below.refl _ _) (Nat.le_refl _) (by simp) ?_; (case hd => rfl); (case hg => rfl); (case hr => first | (go_simp; done) | (go_simp; rfl)); (case hp => exact (Reps.one (show Kd.M (Kd.int .u8) _ _ _ ((wrap64 (48 + (ji3))) % 256) [.int .u8 ((wrap64 (48 + (ji3))) % 256)] from rfl) (Reps.none _ _))); intro v456 w4 ho5 hb hg_ hnew_; clear hg_ hnew_; (first | rw [← Ny455.out] at ho5 | (simp only [Int.reduceToNat] at ho5; rw [← Ny455.out] at ho5)); have HO457 := mk_ (Kd.R_lower ho5 (below_size (below_at HB.out))); replace HB := mk_ (below_step (below_at HB.out) hb); clear hb ho5; have hcv6 := own_string (P := Tryd.prog) Tryd.underlying22 Tryd.underlying5 Tryd.underlying9 (Kd.own_of_R HO457.out)))
  go_ret
  exact ⟨by first | rfl | (simp [errW_none, errW_some] <;> rfl) | (simp only [← hji3]; first | rfl | (simp [errW_none, errW_some] <;> rfl)) | (simp [*, errW_none, errW_some] <;> rfl), below_at HB.out⟩
 revert H; refine bd_ fun t458 A7 H => ?_
 try dsimp only at H
 obtain ⟨y459, hy459⟩ : ∃ y_ : List Int, y_ = (([(wrap64 (48 + (Int.tmod a0 10))) % 256] : List Int)) := ⟨_, rfl⟩
 first | (replace H := bn_ hy459 H; try dsimp only at H) | rw [← hy459] at H
 have Ny459 := mk_ hy459
 clear hy459
 revert H; refine g_ (fun c8 H => ?_)
 have c8b0 := eq_true c8
 have c8b1 : decide (t458.size + (strOfNums y459).size ≤ 9223372036854775807) = true := decide_eq_true c8
 try have c8b2 : (9223372036854775807 < t458.size + (strOfNums y459).size) = False := eq_false (Nat.not_lt.2 c8)
 obtain rfl := Option.some.inj H
 go_enter Tryd.func62, Tryd.ntmps62
 try go_wp2
 replace HB := mk_ (below_drew1 HB.out)
 refine start_ (n := 11) (S := fun w' => True) (ds := []) #[false, false, false, false, false, false, false, false, false, false, false] (by kernel_rfl) rfl rfl trivial (fun hHeld => ?_); refine with_tabW spec_l1Number.tab3 spec_l1Number.bits3 (fun HT_ HW_ => ?_)
 generalize w.drew = w9 at HB hHeld ⊢
 refine pus_ 0 (some 11) (ao_ HT_) ?_
 refine pus_ 1 (some 12) (ao_ HT_) ?_
 refine pus_ 3 (some 14) (ao_ HT_) ?_
 refine pus_ 4 (some 15) (ao_ HT_) ?_
 refine pus_ 5 (some 16) (ao_ HT_) ?_
 refine pus_ 6 (some 17) (ao_ HT_) ?_
 refine join_ (σ := Value) 2 #[true, true, true, true, true, true, true, true, true, false, false] (fun s_ => [(13, .string t458), (18, s_), (19, .string (strOfNums y459))]) (fun s_ w' => (Kd.R (Kd.int .u8) 5 w' w.heap.size (fun _ => True) s_ y459) ∧ (Below w.heap.size w w')) ?_ ?_
 rotate_left
 ·intro hCont
  refine two_ (i := 2) (j := 7) (Ni := some 13) (Nj := some 18) #[true, true, true, true, true, true, true, false, false, false, false] #[true, true, false, true, true, true, true, true, false, false, false] rfl rfl rfl rfl (two_of HT_.out (by kernel_rfl)) (by decide) (by decide) (fun K hK => ?_) (fun K hK => ?_)
  ·skip
   refine goes_ Tryd.func62 (by kernel_rfl) rfl #[.int .i64 (wrap64 (Int.tdiv a0 10))] (by rfl) rfl rfl gl_ ?_
   with_reducible refine (ih k (by omega) (wrap64 (Int.tdiv a0 10)) t458 _ A7.out).mono ?_
   rintro e w10 ⟨rfl, hb⟩
   refine ⟨_, rfl, ?_⟩
   replace HB := mk_ (below_step (below_at HB.out) hb)
   (try clear hb)
   (try clear hb2)
   (try clear hk)
   (try clear hi)
   refine hK.out _ _ trivial (fun hHeld => ?_)
   clear hK K
   refine nor_ (some 13) ?_
   refine ons_ 7 (some 18) (oo_ HT_) (fun K hK => ?_)
   refine Kd.R_lit_step (Kd.int .u8) _ 5 ?hg (N := 18) ?hd (xs := ([(wrap64 (48 + (Int.tmod a0 10))) % 256] : List Int)) (inner := [.int .u8 ((wrap64 (48 + (Int.tmod a0 10))) % 256)]) (ok := fun _ => True) (okp := fun _ => True) ?hr ?hp (fun _ hk => hk) trivial (Below.refl _ _) (Nat.le_refl _) (by simp) ?_; (case hd => rfl); (case hg => rfl); (case hr => first | (go_simp; done) | (go_simp; rfl)); (case hp => exact (Reps.one (show Kd.M (Kd.int .u8) _ _ _ ((wrap64 (48 + (Int.tmod a0 10))) % 256) [.int .u8 ((wrap64 (48 + (Int.tmod a0 10))) % 256)] from rfl) (Reps.none _ _)))
   intro v460 w11 ho12 hb hg_ hnew_
   clear hg_ hnew_
   (first | rw [← Ny459.out] at ho12 | (simp only [Int.reduceToNat] at ho12; rw [← Ny459.out] at ho12))
   have HO461 := mk_ (Kd.R_lower ho12 (below_size (below_at HB.out)))
   replace HB := mk_ (below_step (below_at HB.out) hb)
   clear hb ho12
   refine hK.out _ _ trivial (fun hHeld => ?_)
   clear hK K
   refine nor_ (some 18) ?_
   refine ons_ 8 (some 19) (oo_ HT_) (fun K hK => ?_)
   have hcv13 := own_string (P := Tryd.prog) Tryd.underlying22 Tryd.underlying5 Tryd.underlying9 (Kd.own_of_R HO461.out)
   refine value_ (w1 := ?_) (v := ?_) (by rfl) rfl ?_ ?_
   rotate_left 2
   ·go_simp
    constructor
    ·rfl
    rfl
   clear hcv13
   refine hK.out _ _ trivial (fun hHeld => ?_)
   clear hK K
   refine nor_ (some 19) ?_
   exact norm_ (by simp only [putAll, Act.put, z0_, z1_, z2_]) (hCont (v460) _ ⟨(Kd.R_below HO461.out lt_), (below_at HB.out)⟩)
  skip
  refine Kd.R_lit_step (Kd.int .u8) _ 5 ?hg (N := 18) ?hd (xs := ([(wrap64 (48 + (Int.tmod a0 10))) % 256] : List Int)) (inner := [.int .u8 ((wrap64 (48 + (Int.tmod a0 10))) % 256)]) (ok := fun _ => True) (okp := fun _ => True) ?hr ?hp (fun _ hk => hk) trivial (Below.refl _ _) (Nat.le_refl _) (by simp) ?_; (case hd => rfl); (case hg => rfl); (case hr => first | (go_simp; done) | (go_simp; rfl)); (case hp => exact (Reps.one (show Kd.M (Kd.int .u8) _ _ _ ((wrap64 (48 + (Int.tmod a0 10))) % 256) [.int .u8 ((wrap64 (48 + (Int.tmod a0 10))) % 256)] from rfl) (Reps.none _ _)))
  intro v460 w10 ho11 hb hg_ hnew_
  clear hg_ hnew_
  (first | rw [← Ny459.out] at ho11 | (simp only [Int.reduceToNat] at ho11; rw [← Ny459.out] at ho11))
  have HO461 := mk_ (Kd.R_lower ho11 (below_size (below_at HB.out)))
  replace HB := mk_ (below_step (below_at HB.out) hb)
  clear hb ho11
  refine hK.out _ _ trivial (fun hHeld => ?_)
  clear hK K
  refine nor_ (some 18) ?_
  refine two_ (i := 2) (j := 8) (Ni := some 13) (Nj := some 19) #[true, true, true, true, true, true, true, true, false, false, false] #[true, true, false, true, true, true, true, true, true, false, false] rfl rfl rfl rfl (two_of HT_.out (by kernel_rfl)) (by decide) (by decide) (fun K hK => ?_) (fun K hK => ?_)
  ·skip
   refine goes_ Tryd.func62 (by kernel_rfl) rfl #[.int .i64 (wrap64 (Int.tdiv a0 10))] (by rfl) rfl rfl gl_ ?_
   with_reducible refine (ih k (by omega) (wrap64 (Int.tdiv a0 10)) t458 _ A7.out).mono ?_
   rintro e w12 ⟨rfl, hb⟩
   refine ⟨_, rfl, ?_⟩
   replace HO461 := mk_ (Kd.R_below (Kd.R_below HO461.out lt_) hb)
   replace HB := mk_ (below_step (below_at HB.out) hb)
   (try clear hb)
   (try clear hb2)
   (try clear hk)
   (try clear hi)
   refine hK.out _ _ trivial (fun hHeld => ?_)
   clear hK K
   refine nor_ (some 13) ?_
   refine ons_ 8 (some 19) (oo_ HT_) (fun K hK => ?_)
   have hcv13 := own_string (P := Tryd.prog) Tryd.underlying22 Tryd.underlying5 Tryd.underlying9 (Kd.own_of_R HO461.out)
   refine value_ (w1 := ?_) (v := ?_) (by rfl) rfl ?_ ?_
   rotate_left 2
   ·go_simp
    constructor
    ·rfl
    rfl
   clear hcv13
   refine hK.out _ _ trivial (fun hHeld => ?_)
   clear hK K
   refine nor_ (some 19) ?_
   exact norm_ (by simp only [putAll, Act.put, z0_, z1_, z2_]) (hCont (v460) _ ⟨(Kd.R_below HO461.out lt_), (below_at HB.out)⟩)
  skip
  have hcv12 := own_string (P := Tryd.prog) Tryd.underlying22 Tryd.underlying5 Tryd.underlying9 (Kd.own_of_R HO461.out)
  refine value_ (w1 := ?_) (v := ?_) (by rfl) rfl ?_ ?_
  rotate_left 2
  ·go_simp
   constructor
   ·rfl
   rfl
  clear hcv12
  refine hK.out _ _ trivial (fun hHeld => ?_)
  clear hK K
  refine nor_ (some 19) ?_
  refine ons_ 2 (some 13) (oo_ HT_) (fun K hK => ?_)
  refine goes_ Tryd.func62 (by kernel_rfl) rfl #[.int .i64 (wrap64 (Int.tdiv a0 10))] (by rfl) rfl rfl gl_ ?_
  with_reducible refine (ih k (by omega) (wrap64 (Int.tdiv a0 10)) t458 _ A7.out).mono ?_
  rintro e w13 ⟨rfl, hb⟩
  refine ⟨_, rfl, ?_⟩
  replace HO461 := mk_ (Kd.R_below (Kd.R_below HO461.out lt_) hb)
  replace HB := mk_ (below_step (below_at HB.out) hb)
  (try clear hb)
  (try clear hb2)
  (try clear hk)
  (try clear hi)
  refine hK.out _ _ trivial (fun hHeld => ?_)
  clear hK K
  refine nor_ (some 13) ?_
  exact norm_ (by simp only [putAll, Act.put, z0_, z1_, z2_]) (hCont (v460) _ ⟨(Kd.R_below HO461.out lt_), (below_at HB.out)⟩)
 rintro v460 w14 ⟨h0_, h1_⟩
 have n0_ := mk_ h0_
 have n1_ := mk_ h1_
 clear HB
 clear h0_ h1_
 have HO461 := n0_
 have HB := n1_
 clear n0_ n1_
 have hHeld := trivial
 refine norm_ (a' := ?_) ?_ ?_
 rotate_left
 ·simp only [putAll, Act.put, z0_, z1_, z2_]
  rfl
 refine pus_ 9 (some 20) (ao_ HT_) ?_
 refine pus_ 10 (some 2) (ao_ HT_) ?_
 refine done_ (done_of HT_.out (by kernel_rfl)) ?_
 try go_wp2
 go_ret
 exact ⟨er_, below_at HB.out⟩
end Go.Proofs.YtcaogllnbpmcgaaDoor.P

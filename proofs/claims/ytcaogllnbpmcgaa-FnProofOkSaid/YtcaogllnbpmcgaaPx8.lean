/- Go's functions come to just the answers of the Lean functions told here. -/
import Derived.Test.YtcaogllnbpmcgaaPx6
import Derived.Test.YtcaogllnbpmcgaaPx7
namespace Go.Proofs.Ytcaogllnbpmcgaa.P
open Go.RowKit Go.Proofs.YtcaogllnbpmcgaaW.PrintWords Go.Proofs.YtcaogllnbpmcgaaW.PrintLast Go.Proofs.YtcaogllnbpmcgaaW.PrintMore
attribute [local go_sem] max2_int min2_int max_two min_two max_three min_three max_four min_four
set_option linter.unusedVariables false
set_option linter.unusedSimpArgs false
def spec_ProofOk.j0 : Nat → Int → List (S38) → List (S47) → Bool → Int → List (S93) → Option (Bool)
 | 0, _, _, _, _, _, _ => none
 | k + 1, x0, x1, x2, x42, x186000, x186001 => if x42 = true then (some false) else ((spec_l11Nothing.f k x0).bind fun t188 => ((spec_l11Checks.f k x0 x1 x2 x186000 x186001 x186000 t188).bind fun bt191 => (if bt191.2 = true then (if bt191.1 = (x186001.length : Int) then ((spec_l11Once.f k x186000 x186001).bind fun t193 => (some t193)) else (some false)) else (some false))))
def spec_ProofOk.f (k : Nat) (a0 : Int) (l1 : List (S38)) (l2 : List (S47)) (a3_0 : Int) (l3_1 : List (S93)) : Option (Bool) := (spec_StoryOk.f k a0 l1).bind fun t186 => (if t186 = true then ((spec_TermOk.f k a0 l2).bind fun t187 => (if t187 = true then (if (l3_1.length : Int) > 15 then (spec_ProofOk.j0 k a0 l1 l2 true a3_0 l3_1) else (if a3_0 > 0 then (spec_ProofOk.j0 k a0 l1 l2 true a3_0 l3_1) else (if a3_0 = 0 then (spec_ProofOk.j0 k a0 l1 l2 ((l3_1.length : Int) == 0) a3_0 l3_1) else (spec_ProofOk.j0 k a0 l1 l2 false a3_0 l3_1)))) else (spec_ProofOk.j0 k a0 l1 l2 true a3_0 l3_1))) else (spec_ProofOk.j0 k a0 l1 l2 true a3_0 l3_1))
def spec_ProofOk.T3 : Bool × List (List Nat × List Nat) := (true, [([], []), ([], []), ([], []), ([], []), ([], []), ([4], [4]), ([], []), ([6], [6]), ([0, 1, 2, 3, 5, 7, 7], [0, 1, 2, 3, 5, 7]), ([8], [8]), ([9], [9]), ([9], [9]), ([10, 8, 0, 1, 2, 3, 4, 5, 6, 7, 8, 9, 10], [10]), ([11, 12, 0, 1, 2, 3, 4, 5, 6, 7, 8, 9, 10, 11, 12], [11])])
def spec_ProofOk.B3 : List Nat := [0, 0, 0, 0, 0, 16, 0, 64, 255, 511, 1023, 1023, 2047, 8191]
theorem spec_ProofOk.tab3 : rtab .any (opsOf Try.f32 3) = spec_ProofOk.T3 := by kernel_rfl
theorem spec_ProofOk.bits3 : waitsOk spec_ProofOk.T3.2 spec_ProofOk.B3 = true := by kernel_rfl
set_option maxHeartbeats 8000000 in
set_option maxRecDepth 100000 in
theorem spec_ProofOk.calls (k : Nat) (a0 : Int) (A1 : Option Addr) (c1 : Nat) (l1 : List (S38)) (A2 : Option Addr) (c2 : Nat) (l2 : List (S47)) (a3_0 : Int) (A3_1 : Option Addr) (c3_1 : Nat) (l3_1 : List (S93)) (r : Bool) (w : World) (hr1 : Kd.C k38 w A1 l1.length l1) (hc1 : l1.length ≤ c1) (hr2 : Kd.C k47 w A2 l2.length l2) (hc2 : l2.length ≤ c2) (hr3_1 : Kd.C k93 w A3_1 l3_1.length l3_1) (hc3_1 : l3_1.length ≤ c3_1) (h : spec_ProofOk.f k a0 l1 l2 a3_0 l3_1 = some r) :
  Calls Try.prog 32 #[.int .i64 a0, .slice A1 l1.length c1, .slice A2 l2.length c2, .agg #[.int .i64 a3_0, .slice A3_1 l3_1.length c3_1]] w fun e w' => e = .returned (.bool r) ∧ Below w.heap.size w w' := by
 have hu51 := Try.underlying51
 have HR1 := mk_ hr1
 have HC1 := mk_ hc1
 clear hr1 hc1
 have HR2 := mk_ hr2
 have HC2 := mk_ hc2
 clear hr2 hc2
 have HR3_1 := mk_ hr3_1
 have HC3_1 := mk_ hc3_1
 clear hr3_1 hc3_1
 have HB := mk_ (Below.refl w.heap.size w)
 unfold spec_ProofOk.f at h
 have H := h
 clear h
 have HC5 := mk_ H
 clear H
 go_enter Try.func32, Try.ntmps32
 go_upto_region 1 with (first | ((with_reducible refine gate_dst (N := 7) rfl ?_); (try (refine gate_guard (by rfl) ?_; dsimp only)); refine bx_ 7 #[.int .i64 a3_0, .slice A3_1 l3_1.length c3_1] 51 ?_; intro gb185 hg w6 hbox hb; have BK185 := mk_ (hbox); have GW185 := mk_ (gb_ hg HB.out); have GE185 := mk_ (gb_ hg HB.out); replace HB := mk_ (below_step (below_at HB.out) hb); clear hb hbox hg))
 (try simp only [Act.put, z0_, z1_, z2_])
 go_cut [42] (fun v42 wc => ∃ (kq : Nat) (x42_4 : Bool), v42 = .bool x42_4 ∧ Aside0 (spec_ProofOk.j0 kq a0 l1 l2 x42_4 a3_0 l3_1 = some r) ∧ Aside0 (kq ≤ k) ∧ Aside0 (wc.heap[gb185]? = some (.cells #[.int .i64 a3_0, (.slice A3_1 l3_1.length c3_1)] 51 (0, 0))) ∧ Aside0 (Below w.heap.size w wc))
 case first =>
  have H := HC5.out
  clear HC5
  replace H := Option.bind_eq_some_iff.mp H
  obtain ⟨t186, A70, H⟩ := H
  try dsimp only at H
  have A7 := mk_ A70
  clear A70
  by_cases c8 : t186 = true
  rotate_left
  ·replace c8 := Bool.eq_false_iff.mpr c8
   subst c8
   rw [if_neg Bool.false_ne_true] at H
   have H' := mk_ H
   clear H
   go_wp2_with (first | ((with_reducible refine gate_callee (f := 27) rfl ?_); refine goesL_ (some 13) rfl rfl Try.func27 (by kernel_rfl) rfl #[.int .i64 a0, .slice A1 l1.length c1] rfl gl_ ?_; (with_reducible refine (spec_StoryOk.calls k a0 _ _ l1 false _ ?side1 ?side2 A7.out).mono ?_); (case side1 => exact Kd.C_below (Kd.C_below HR1.out HB.out) lt_); (case side2 => exact HC1.out); rintro e w23 ⟨rfl, hb⟩; refine ⟨_, rfl, ?_⟩; replace BK185 := mk_ (blk_at BK185.out hb); replace HB := mk_ (below_step (at_ HB.out) hb); (try clear hb)))
   go_meet
   case rel => exact ⟨_, (true), sm_, H', ⟨by first | omega | exact Nat.le_refl _⟩, ⟨by refine bs_ ?_; exact BK185.out⟩, ⟨at_ HB.out⟩⟩
  subst c8
  rw [if_pos rfl] at H
  replace H := Option.bind_eq_some_iff.mp H
  obtain ⟨t187, A90, H⟩ := H
  try dsimp only at H
  have A9 := mk_ A90
  clear A90
  by_cases c10 : t187 = true
  rotate_left
  ·replace c10 := Bool.eq_false_iff.mpr c10
   subst c10
   rw [if_neg Bool.false_ne_true] at H
   have H' := mk_ H
   clear H
   go_wp2_with (first | ((with_reducible refine gate_callee (f := 27) rfl ?_); refine goesL_ (some 13) rfl rfl Try.func27 (by kernel_rfl) rfl #[.int .i64 a0, .slice A1 l1.length c1] rfl gl_ ?_; (with_reducible refine (spec_StoryOk.calls k a0 _ _ l1 true _ ?side1 ?side2 A7.out).mono ?_); (case side1 => exact Kd.C_below (Kd.C_below HR1.out HB.out) lt_); (case side2 => exact HC1.out); rintro e w22 ⟨rfl, hb⟩; refine ⟨_, rfl, ?_⟩; replace BK185 := mk_ (blk_at BK185.out hb); replace HB := mk_ (below_step (at_ HB.out) hb); (try clear hb)) | (go_at_call 28; (with_reducible refine (spec_TermOk.calls k a0 _ _ l2 false _ ?side1 ?side2 A9.out).mono ?_); (case side1 => exact Kd.C_below (Kd.C_below HR2.out HB.out) lt_); (case side2 => exact HC2.out); rintro e w' ⟨rfl, ⟨nd, rfl⟩⟩))
   go_meet
   case rel => exact ⟨_, (true), sm_, H', ⟨by first | omega | exact Nat.le_refl _⟩, ⟨by refine bs_ ?_; exact BK185.out⟩, ⟨at_ HB.out⟩⟩
  subst c10
  rw [if_pos rfl] at H
  by_cases c11 : (l3_1.length : Int) > 15
  ·rw [if_pos c11] at H
   have c11b0 : decide (15 < (l3_1.length : Int)) = true := decide_eq_true c11
   have c11b1 : decide (15 < l3_1.length) = true := decide_eq_true (by omega)
   clear c11
   (first | rw [c11b0] | (simp only [i64_w, i32_w]; rw [c11b0]) | skip)
   have H' := mk_ H
   clear H
   go_wp2_with (first | ((with_reducible refine gate_callee (f := 27) rfl ?_); refine goesL_ (some 13) rfl rfl Try.func27 (by kernel_rfl) rfl #[.int .i64 a0, .slice A1 l1.length c1] rfl gl_ ?_; (with_reducible refine (spec_StoryOk.calls k a0 _ _ l1 true _ ?side1 ?side2 A7.out).mono ?_); (case side1 => exact Kd.C_below (Kd.C_below HR1.out HB.out) lt_); (case side2 => exact HC1.out); rintro e w12 ⟨rfl, hb⟩; refine ⟨_, rfl, ?_⟩; replace BK185 := mk_ (blk_at BK185.out hb); replace HB := mk_ (below_step (at_ HB.out) hb); (try clear hb)) | (go_at_call 28; (with_reducible refine (spec_TermOk.calls k a0 _ _ l2 true _ ?side1 ?side2 A9.out).mono ?_); (case side1 => exact Kd.C_below (Kd.C_below HR2.out HB.out) lt_); (case side2 => exact HC2.out); rintro e w' ⟨rfl, ⟨nd, rfl⟩⟩; have hcz13_0 := blk_cell BK185.out 0; have hcz13_1 := blk_cell BK185.out 1; have hfz13_0 := blk_frozen BK185.out 0; have hfz13_1 := blk_frozen BK185.out 1))
   go_meet
   case rel => exact ⟨_, (true), sm_, H', ⟨by first | omega | exact Nat.le_refl _⟩, ⟨by refine bs_ ?_; exact BK185.out⟩, ⟨at_ HB.out⟩⟩
  rw [if_neg c11] at H
  have c11b0 : decide (15 < (l3_1.length : Int)) = false := decide_eq_false c11
  have c11b1 : decide (15 < l3_1.length) = false := decide_eq_false (by omega)
  clear c11
  (first | rw [c11b0] | (simp only [i64_w, i32_w]; rw [c11b0]) | skip)
  by_cases c14 : a3_0 > 0
  ·rw [if_pos c14] at H
   have c14b0 : decide (0 < a3_0) = true := decide_eq_true c14
   clear c14
   have H' := mk_ H
   clear H
   go_wp2_with (first | ((with_reducible refine gate_callee (f := 27) rfl ?_); refine goesL_ (some 13) rfl rfl Try.func27 (by kernel_rfl) rfl #[.int .i64 a0, .slice A1 l1.length c1] rfl gl_ ?_; (with_reducible refine (spec_StoryOk.calls k a0 _ _ l1 true _ ?side1 ?side2 A7.out).mono ?_); (case side1 => exact Kd.C_below (Kd.C_below HR1.out HB.out) lt_); (case side2 => exact HC1.out); rintro e w15 ⟨rfl, hb⟩; refine ⟨_, rfl, ?_⟩; replace BK185 := mk_ (blk_at BK185.out hb); replace HB := mk_ (below_step (at_ HB.out) hb); (try clear hb)) | (go_at_call 28; (with_reducible refine (spec_TermOk.calls k a0 _ _ l2 true _ ?side1 ?side2 A9.out).mono ?_); (case side1 => exact Kd.C_below (Kd.C_below HR2.out HB.out) lt_); (case side2 => exact HC2.out); rintro e w' ⟨rfl, ⟨nd, rfl⟩⟩; have hcz16_0 := blk_cell BK185.out 0; have hcz16_1 := blk_cell BK185.out 1; have hfz16_0 := blk_frozen BK185.out 0; have hfz16_1 := blk_frozen BK185.out 1))
   go_meet
   case rel => exact ⟨_, (true), sm_, H', ⟨by first | omega | exact Nat.le_refl _⟩, ⟨by refine bs_ ?_; exact BK185.out⟩, ⟨at_ HB.out⟩⟩
  rw [if_neg c14] at H
  have c14b0 : decide (0 < a3_0) = false := decide_eq_false c14
  clear c14
  by_cases c17 : a3_0 = 0
  ·rw [if_pos c17] at H
   have c17b0 : (a3_0 == 0) = true := beq_iff_eq.mpr c17
   have c17b1 : (a3_0 != 0) = false := bne_eq_false_iff_eq.mpr c17
   clear c17
   have H' := mk_ H
   clear H
   go_wp2_with (first | ((with_reducible refine gate_callee (f := 27) rfl ?_); refine goesL_ (some 13) rfl rfl Try.func27 (by kernel_rfl) rfl #[.int .i64 a0, .slice A1 l1.length c1] rfl gl_ ?_; (with_reducible refine (spec_StoryOk.calls k a0 _ _ l1 true _ ?side1 ?side2 A7.out).mono ?_); (case side1 => exact Kd.C_below (Kd.C_below HR1.out HB.out) lt_); (case side2 => exact HC1.out); rintro e w18 ⟨rfl, hb⟩; refine ⟨_, rfl, ?_⟩; replace BK185 := mk_ (blk_at BK185.out hb); replace HB := mk_ (below_step (at_ HB.out) hb); (try clear hb)) | (go_at_call 28; (with_reducible refine (spec_TermOk.calls k a0 _ _ l2 true _ ?side1 ?side2 A9.out).mono ?_); (case side1 => exact Kd.C_below (Kd.C_below HR2.out HB.out) lt_); (case side2 => exact HC2.out); rintro e w' ⟨rfl, ⟨nd, rfl⟩⟩; have hcz19_0 := blk_cell BK185.out 0; have hcz19_1 := blk_cell BK185.out 1; have hfz19_0 := blk_frozen BK185.out 0; have hfz19_1 := blk_frozen BK185.out 1))
   go_meet
   case rel => exact ⟨_, (((l3_1.length : Int) == 0)), sm_, H', ⟨by first | omega | exact Nat.le_refl _⟩, ⟨by refine bs_ ?_; exact BK185.out⟩, ⟨at_ HB.out⟩⟩
  rw [if_neg c17] at H
  have c17b0 : (a3_0 == 0) = false := beq_eq_false_iff_ne.mpr c17
  have c17b1 : (a3_0 != 0) = true := bne_iff_ne.mpr c17
  have H' := mk_ H
  clear H
  go_wp2_with (first | ((with_reducible refine gate_callee (f := 27) rfl ?_); refine goesL_ (some 13) rfl rfl Try.func27 (by kernel_rfl) rfl #[.int .i64 a0, .slice A1 l1.length c1] rfl gl_ ?_; (with_reducible refine (spec_StoryOk.calls k a0 _ _ l1 true _ ?side1 ?side2 A7.out).mono ?_); (case side1 => exact Kd.C_below (Kd.C_below HR1.out HB.out) lt_); (case side2 => exact HC1.out); rintro e w20 ⟨rfl, hb⟩; refine ⟨_, rfl, ?_⟩; replace BK185 := mk_ (blk_at BK185.out hb); replace HB := mk_ (below_step (at_ HB.out) hb); (try clear hb)) | (go_at_call 28; (with_reducible refine (spec_TermOk.calls k a0 _ _ l2 true _ ?side1 ?side2 A9.out).mono ?_); (case side1 => exact Kd.C_below (Kd.C_below HR2.out HB.out) lt_); (case side2 => exact HC2.out); rintro e w' ⟨rfl, ⟨nd, rfl⟩⟩; have hcz21_0 := blk_cell BK185.out 0; have hcz21_1 := blk_cell BK185.out 1; have hfz21_0 := blk_frozen BK185.out 0; have hfz21_1 := blk_frozen BK185.out 1))
  go_meet
  case rel => exact ⟨_, (false), sm_, H', ⟨by first | omega | exact Nat.le_refl _⟩, ⟨by refine bs_ ?_; exact BK185.out⟩, ⟨at_ HB.out⟩⟩
 clear HC5
 try clear c1
 try clear c2
 try clear p2
 try clear c3
 try clear c8
 try clear c10
 try clear c11
 try clear c11b0
 try clear c11b1
 try clear c14
 try clear c14b0
 try clear c17
 try clear c17b0
 try clear c17b1
 try clear hcz13_0
 try clear hcz13_1
 try clear hcz16_0
 try clear hcz16_1
 try clear hcz19_0
 try clear hcz19_1
 try clear hcz21_0
 try clear hcz21_1
 try clear hfz13_0
 try clear hfz13_1
 try clear hfz16_0
 try clear hfz16_1
 try clear hfz19_0
 try clear hfz19_1
 try clear hfz21_0
 try clear hfz21_1
 obtain ⟨kq, x42_4, rfl, HA, HJ4, BK185, HB⟩ := hcut
 cases kq with
 | zero => exact absurd HA.out (by simp [spec_ProofOk.j0])
 | succ kj4 =>
  have H := HA.out
  clear HA
  simp only [spec_ProofOk.j0] at H
  by_cases c24 : x42_4 = true
  ·subst c24
   rw [if_pos rfl] at H
   obtain rfl := Option.some.inj H
   go_wp2
   go_ret
   exact ⟨er_, at_ HB.out⟩
  replace c24 := Bool.eq_false_iff.mpr c24
  subst c24
  rw [if_neg Bool.false_ne_true] at H
  replace H := Option.bind_eq_some_iff.mp H
  obtain ⟨t188, A250, H⟩ := H
  try dsimp only at H
  have A25 := mk_ A250
  clear A250
  replace H := Option.bind_eq_some_iff.mp H
  obtain ⟨⟨t191, t192⟩, A260, H⟩ := H
  try dsimp only at H
  have A26 := mk_ A260
  clear A260
  by_cases c27 : t192 = true
  rotate_left
  ·replace c27 := Bool.eq_false_iff.mpr c27
   subst c27
   rw [if_neg Bool.false_ne_true] at H
   obtain rfl := Option.some.inj H
   try go_wp2
   replace BK185 := mk_ (blk_drew BK185.out)
   replace HB := mk_ (below_drew1 HB.out)
   refine start_ (n := 14) (S := fun w' => w'.cell? ⟨gb185, 0, none⟩ = some (.int .i64 a3_0) ∧ w'.cell? ⟨gb185, 1, none⟩ = some (.slice A3_1 l3_1.length c3_1)) (ds := []) #[false, false, false, false, false, false, false, false, false, false, false, false, false, false] (by kernel_rfl) rfl rfl ⟨(blk_cell BK185.out 0).trans rfl, (blk_cell BK185.out 1).trans rfl⟩ (fun hHeld => ?_); refine with_tabW spec_ProofOk.tab3 spec_ProofOk.bits3 (fun HT_ HW_ => ?_)
   generalize wc.drew = w41 at BK185 HB hHeld ⊢
   refine pus_ 0 (some 44) (ao_ HT_) ?_
   refine pus_ 1 (some 45) (ao_ HT_) ?_
   refine pus_ 2 (some 46) (ao_ HT_) ?_
   refine pus_ 4 (some 48) (ao_ HT_) ?_
   refine pus_ 6 (some 50) (ao_ HT_) ?_
   refine tas_ 3 (some 47) (to_ HT_ HW_) hHeld ?_
   refine tas_ 5 (some 49) (to_ HT_ HW_) hHeld ?_
   refine ons_ 7 (some 51) (oo_ HT_) (fun K hK => ?_)
   refine goes_ Try.func70 (by kernel_rfl) rfl #[.int .i64 a0] (by rfl) rfl rfl gl_ ?_
   with_reducible refine (spec_l11Nothing.calls kj4 a0 t188 _ A25.out).mono ?_
   rintro e w42 ⟨v189, rfl, ho0, hb⟩
   refine ⟨_, rfl, ?_⟩
   have HO190 := mk_ (Kd.R_lower ho0 (below_size (at_ HB.out)))
   replace BK185 := mk_ (blk_at BK185.out hb)
   replace HB := mk_ (below_step (at_ HB.out) hb)
   (try clear hb)
   (try clear hb2)
   (try clear hk)
   (try clear hi)
   (try clear ho0)
   obtain ⟨Ao43, co43, eo43⟩ := Kd.R_slice HO190.out
   (first | subst eo43 | (injection eo43 with f1_ f2_ f3_; have f4_ := f1_.symm; have f5_ := f3_.symm; clear f1_ f2_ f3_; subst f4_; subst f5_))
   refine hK.out _ _ ⟨(blk_cell BK185.out 0).trans rfl, (blk_cell BK185.out 1).trans rfl⟩ (fun hHeld => ?_)
   clear hK K
   refine nor_ (some 51) ?_
   refine ons_ 8 (some 52) (oo_ HT_) (fun K hK => ?_)
   refine goes_ Try.func69 (by kernel_rfl) rfl #[.int .i64 a0, .slice A1 l1.length c1, .slice A2 l2.length c2, .agg #[.int .i64 a3_0, .slice A3_1 l3_1.length c3_1], .int .i64 a3_0, .slice Ao43 t188.length co43] (by rfl) rfl rfl gl_ ?_
   with_reducible refine (spec_l11Checks.calls kj4 a0 _ _ l1 _ _ l2 a3_0 _ _ l3_1 a3_0 _ _ t188 t191 false _ ?side1 ?side2 ?side3 ?side4 ?side5 ?side6 ?side7 ?side8 A26.out).mono ?_
   (case side1 => exact Kd.C_below (Kd.C_below HR1.out HB.out) lt_)
   (case side2 => exact HC1.out)
   (case side3 => exact Kd.C_below (Kd.C_below HR2.out HB.out) lt_)
   (case side4 => exact HC2.out)
   (case side5 => exact Kd.C_below (Kd.C_below HR3_1.out HB.out) lt_)
   (case side6 => exact HC3_1.out)
   (case side7 => exact Kd.C_below (Kd.R_reads' HO190.out).2.2 lt_)
   (case side8 => exact (Kd.R_reads' HO190.out).2.1)
   rintro e w44 ⟨rfl, hb⟩
   refine ⟨_, rfl, ?_⟩
   replace BK185 := mk_ (blk_at BK185.out hb)
   replace HB := mk_ (below_step (at_ HB.out) hb)
   (try clear HO190)
   (try clear hb)
   (try clear hb2)
   (try clear hk)
   (try clear hi)
   refine hK.out _ _ ⟨(blk_cell BK185.out 0).trans rfl, (blk_cell BK185.out 1).trans rfl⟩ (fun hHeld => ?_)
   clear hK K
   refine nor_ (some 52) ?_
   refine pus_ 9 (some 43) (ao_ HT_) ?_
   refine pus_ 10 (some 53) (ao_ HT_) ?_
   refine pus_ 11 (some 54) (ao_ HT_) ?_
   refine pus_ 12 (some 9) (ao_ HT_) ?_
   refine pus_ 13 (some 10) (ao_ HT_) ?_
   refine done_ (done_of HT_.out (by kernel_rfl)) ?_
   try go_wp2
   go_ret
   exact ⟨er_, at_ HB.out⟩
  subst c27
  rw [if_pos rfl] at H
  by_cases c28 : t191 = (l3_1.length : Int)
  rotate_left
  ·rw [if_neg c28] at H
   have c28b0 : (t191 == (l3_1.length : Int)) = false := beq_eq_false_iff_ne.mpr c28
   have c28b1 : (t191 != (l3_1.length : Int)) = true := bne_iff_ne.mpr c28
   obtain rfl := Option.some.inj H
   try go_wp2
   replace BK185 := mk_ (blk_drew BK185.out)
   replace HB := mk_ (below_drew1 HB.out)
   refine start_ (n := 14) (S := fun w' => w'.cell? ⟨gb185, 0, none⟩ = some (.int .i64 a3_0) ∧ w'.cell? ⟨gb185, 1, none⟩ = some (.slice A3_1 l3_1.length c3_1)) (ds := []) #[false, false, false, false, false, false, false, false, false, false, false, false, false, false] (by kernel_rfl) rfl rfl ⟨(blk_cell BK185.out 0).trans rfl, (blk_cell BK185.out 1).trans rfl⟩ (fun hHeld => ?_); refine with_tabW spec_ProofOk.tab3 spec_ProofOk.bits3 (fun HT_ HW_ => ?_)
   generalize wc.drew = w36 at BK185 HB hHeld ⊢
   refine pus_ 0 (some 44) (ao_ HT_) ?_
   refine pus_ 1 (some 45) (ao_ HT_) ?_
   refine pus_ 2 (some 46) (ao_ HT_) ?_
   refine pus_ 4 (some 48) (ao_ HT_) ?_
   refine pus_ 6 (some 50) (ao_ HT_) ?_
   refine tas_ 3 (some 47) (to_ HT_ HW_) hHeld ?_
   refine tas_ 5 (some 49) (to_ HT_ HW_) hHeld ?_
   refine ons_ 7 (some 51) (oo_ HT_) (fun K hK => ?_)
   refine goes_ Try.func70 (by kernel_rfl) rfl #[.int .i64 a0] (by rfl) rfl rfl gl_ ?_
   with_reducible refine (spec_l11Nothing.calls kj4 a0 t188 _ A25.out).mono ?_
   rintro e w37 ⟨v189, rfl, ho0, hb⟩
   refine ⟨_, rfl, ?_⟩
   have HO190 := mk_ (Kd.R_lower ho0 (below_size (at_ HB.out)))
   replace BK185 := mk_ (blk_at BK185.out hb)
   replace HB := mk_ (below_step (at_ HB.out) hb)
   (try clear hb)
   (try clear hb2)
   (try clear hk)
   (try clear hi)
   (try clear ho0)
   obtain ⟨Ao38, co38, eo38⟩ := Kd.R_slice HO190.out
   (first | subst eo38 | (injection eo38 with f1_ f2_ f3_; have f4_ := f1_.symm; have f5_ := f3_.symm; clear f1_ f2_ f3_; subst f4_; subst f5_))
   refine hK.out _ _ ⟨(blk_cell BK185.out 0).trans rfl, (blk_cell BK185.out 1).trans rfl⟩ (fun hHeld => ?_)
   clear hK K
   refine nor_ (some 51) ?_
   refine ons_ 8 (some 52) (oo_ HT_) (fun K hK => ?_)
   refine goes_ Try.func69 (by kernel_rfl) rfl #[.int .i64 a0, .slice A1 l1.length c1, .slice A2 l2.length c2, .agg #[.int .i64 a3_0, .slice A3_1 l3_1.length c3_1], .int .i64 a3_0, .slice Ao38 t188.length co38] (by rfl) rfl rfl gl_ ?_
   with_reducible refine (spec_l11Checks.calls kj4 a0 _ _ l1 _ _ l2 a3_0 _ _ l3_1 a3_0 _ _ t188 t191 true _ ?side1 ?side2 ?side3 ?side4 ?side5 ?side6 ?side7 ?side8 A26.out).mono ?_
   (case side1 => exact Kd.C_below (Kd.C_below HR1.out HB.out) lt_)
   (case side2 => exact HC1.out)
   (case side3 => exact Kd.C_below (Kd.C_below HR2.out HB.out) lt_)
   (case side4 => exact HC2.out)
   (case side5 => exact Kd.C_below (Kd.C_below HR3_1.out HB.out) lt_)
   (case side6 => exact HC3_1.out)
   (case side7 => exact Kd.C_below (Kd.R_reads' HO190.out).2.2 lt_)
   (case side8 => exact (Kd.R_reads' HO190.out).2.1)
   rintro e w39 ⟨rfl, hb⟩
   refine ⟨_, rfl, ?_⟩
   replace BK185 := mk_ (blk_at BK185.out hb)
   replace HB := mk_ (below_step (at_ HB.out) hb)
   (try clear HO190)
   (try clear hb)
   (try clear hb2)
   (try clear hk)
   (try clear hi)
   refine hK.out _ _ ⟨(blk_cell BK185.out 0).trans rfl, (blk_cell BK185.out 1).trans rfl⟩ (fun hHeld => ?_)
   clear hK K
   refine nor_ (some 52) ?_
   refine pus_ 9 (some 43) (ao_ HT_) ?_
   refine pus_ 10 (some 53) (ao_ HT_) ?_
   refine pus_ 11 (some 54) (ao_ HT_) ?_
   refine pus_ 12 (some 9) (ao_ HT_) ?_
   refine pus_ 13 (some 10) (ao_ HT_) ?_
   refine done_ (done_of HT_.out (by kernel_rfl)) ?_
   have hcz40_0 := blk_cell BK185.out 0
   have hcz40_1 := blk_cell BK185.out 1
   have hfz40_0 := blk_frozen BK185.out 0
   have hfz40_1 := blk_frozen BK185.out 1
   try go_wp2
   go_ret
   exact ⟨er_, at_ HB.out⟩
  rw [if_pos c28] at H
  have c28b0 : (t191 == (l3_1.length : Int)) = true := beq_iff_eq.mpr c28
  have c28b1 : (t191 != (l3_1.length : Int)) = false := bne_eq_false_iff_eq.mpr c28
  clear c28
  replace H := Option.bind_eq_some_iff.mp H
  obtain ⟨t193, A290, H⟩ := H
  replace H : (some t193) = some r := H
  have A29 := mk_ A290
  clear A290
  obtain rfl := Option.some.inj H
  try go_wp2
  replace BK185 := mk_ (blk_drew BK185.out)
  replace HB := mk_ (below_drew1 HB.out)
  refine start_ (n := 14) (S := fun w' => w'.cell? ⟨gb185, 0, none⟩ = some (.int .i64 a3_0) ∧ w'.cell? ⟨gb185, 1, none⟩ = some (.slice A3_1 l3_1.length c3_1)) (ds := []) #[false, false, false, false, false, false, false, false, false, false, false, false, false, false] (by kernel_rfl) rfl rfl ⟨(blk_cell BK185.out 0).trans rfl, (blk_cell BK185.out 1).trans rfl⟩ (fun hHeld => ?_); refine with_tabW spec_ProofOk.tab3 spec_ProofOk.bits3 (fun HT_ HW_ => ?_)
  generalize wc.drew = w30 at BK185 HB hHeld ⊢
  refine pus_ 0 (some 44) (ao_ HT_) ?_
  refine pus_ 1 (some 45) (ao_ HT_) ?_
  refine pus_ 2 (some 46) (ao_ HT_) ?_
  refine pus_ 4 (some 48) (ao_ HT_) ?_
  refine pus_ 6 (some 50) (ao_ HT_) ?_
  refine tas_ 3 (some 47) (to_ HT_ HW_) hHeld ?_
  refine tas_ 5 (some 49) (to_ HT_ HW_) hHeld ?_
  refine ons_ 7 (some 51) (oo_ HT_) (fun K hK => ?_)
  refine goes_ Try.func70 (by kernel_rfl) rfl #[.int .i64 a0] (by rfl) rfl rfl gl_ ?_
  with_reducible refine (spec_l11Nothing.calls kj4 a0 t188 _ A25.out).mono ?_
  rintro e w31 ⟨v189, rfl, ho0, hb⟩
  refine ⟨_, rfl, ?_⟩
  have HO190 := mk_ (Kd.R_lower ho0 (below_size (at_ HB.out)))
  replace BK185 := mk_ (blk_at BK185.out hb)
  replace HB := mk_ (below_step (at_ HB.out) hb)
  (try clear hb)
  (try clear hb2)
  (try clear hk)
  (try clear hi)
  (try clear ho0)
  obtain ⟨Ao32, co32, eo32⟩ := Kd.R_slice HO190.out
  (first | subst eo32 | (injection eo32 with f1_ f2_ f3_; have f4_ := f1_.symm; have f5_ := f3_.symm; clear f1_ f2_ f3_; subst f4_; subst f5_))
  refine hK.out _ _ ⟨(blk_cell BK185.out 0).trans rfl, (blk_cell BK185.out 1).trans rfl⟩ (fun hHeld => ?_)
  clear hK K
  refine nor_ (some 51) ?_
  refine ons_ 8 (some 52) (oo_ HT_) (fun K hK => ?_)
  refine goes_ Try.func69 (by kernel_rfl) rfl #[.int .i64 a0, .slice A1 l1.length c1, .slice A2 l2.length c2, .agg #[.int .i64 a3_0, .slice A3_1 l3_1.length c3_1], .int .i64 a3_0, .slice Ao32 t188.length co32] (by rfl) rfl rfl gl_ ?_
  with_reducible refine (spec_l11Checks.calls kj4 a0 _ _ l1 _ _ l2 a3_0 _ _ l3_1 a3_0 _ _ t188 t191 true _ ?side1 ?side2 ?side3 ?side4 ?side5 ?side6 ?side7 ?side8 A26.out).mono ?_
  (case side1 => exact Kd.C_below (Kd.C_below HR1.out HB.out) lt_)
  (case side2 => exact HC1.out)
  (case side3 => exact Kd.C_below (Kd.C_below HR2.out HB.out) lt_)
  (case side4 => exact HC2.out)
  (case side5 => exact Kd.C_below (Kd.C_below HR3_1.out HB.out) lt_)
  (case side6 => exact HC3_1.out)
  (case side7 => exact Kd.C_below (Kd.R_reads' HO190.out).2.2 lt_)
  (case side8 => exact (Kd.R_reads' HO190.out).2.1)
  rintro e w33 ⟨rfl, hb⟩
  refine ⟨_, rfl, ?_⟩
  replace BK185 := mk_ (blk_at BK185.out hb)
  replace HB := mk_ (below_step (at_ HB.out) hb)
  (try clear HO190)
  (try clear hb)
  (try clear hb2)
  (try clear hk)
  (try clear hi)
  refine hK.out _ _ ⟨(blk_cell BK185.out 0).trans rfl, (blk_cell BK185.out 1).trans rfl⟩ (fun hHeld => ?_)
  clear hK K
  refine nor_ (some 52) ?_
  refine pus_ 9 (some 43) (ao_ HT_) ?_
  refine pus_ 10 (some 53) (ao_ HT_) ?_
  refine pus_ 11 (some 54) (ao_ HT_) ?_
  refine pus_ 12 (some 9) (ao_ HT_) ?_
  refine pus_ 13 (some 10) (ao_ HT_) ?_
  refine done_ (done_of HT_.out (by kernel_rfl)) ?_
  have hcz34_0 := blk_cell BK185.out 0
  have hcz34_1 := blk_cell BK185.out 1
  have hfz34_0 := blk_frozen BK185.out 0
  have hfz34_1 := blk_frozen BK185.out 1
  try go_wp2_with (first | (go_at_call 71; (with_reducible refine (spec_l11Once.calls kj4 a3_0 _ _ l3_1 t193 _ ?side1 ?side2 A29.out).mono ?_); (case side1 => exact Kd.C_below (Kd.C_below HR3_1.out HB.out) lt_); (case side2 => exact HC3_1.out); rintro e w35 ⟨rfl, hb⟩; replace HB := mk_ (below_step (at_ HB.out) hb); (try clear HO190 BK185); (try clear hb)))
  go_ret
  exact ⟨er_, at_ HB.out⟩
end Go.Proofs.Ytcaogllnbpmcgaa.P

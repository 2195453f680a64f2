/- Go's functions come to just the answers of the Lean functions told here. -/
import Derived.Test.YtcaogllnbpmcgaaDoorPx20
namespace Go.Proofs.YtcaogllnbpmcgaaDoor.P
open Go.RowKit Go.Proofs.YtcaogllnbpmcgaaDoorW.PrintWords Go.Proofs.YtcaogllnbpmcgaaDoorW.PrintLast Go.Proofs.YtcaogllnbpmcgaaDoorW.PrintMore
attribute [local go_sem] max2_int min2_int max_two min_two max_three min_three max_four min_four
set_option linter.unusedVariables false
set_option linter.unusedSimpArgs false
def impl_caseText.f : Nat → Int → List (S68) → Int → Option (ByteArray)
 | 0, _, _, _ => none
 | k + 1, a0_0, l0_1, a1 => if a1 = (-1) then (some (⟨#[42]⟩ : ByteArray)) else (if a1 < 0 then ((strconv_Itoa_56.f (wrap64 ((-2) - a1))).bind fun t412 => (some t412)) else (if 0 ≤ a1 then (if a1 < (l0_1.length : Int) then ((some (([(wrap64 (97 + ((rd_T68 l0_1 a1).f0))) % 256] : List Int) : List Int)).bind fun y415 => (if (strOfNums y415).size + 1 ≤ 9223372036854775807 then ((impl_caseText.f k a0_0 l0_1 ((rd_T68 l0_1 a1).f1)).bind fun t418 => (if ((strOfNums y415) ++ (⟨#[40]⟩ : ByteArray)).size + t418.size ≤ 9223372036854775807 then (if (((strOfNums y415) ++ (⟨#[40]⟩ : ByteArray)) ++ t418).size + 1 ≤ 9223372036854775807 then ((impl_caseText.f k a0_0 l0_1 ((rd_T68 l0_1 a1).f2)).bind fun t419 => (if ((((strOfNums y415) ++ (⟨#[40]⟩ : ByteArray)) ++ t418) ++ (⟨#[44]⟩ : ByteArray)).size + t419.size ≤ 9223372036854775807 then (if (((((strOfNums y415) ++ (⟨#[40]⟩ : ByteArray)) ++ t418) ++ (⟨#[44]⟩ : ByteArray)) ++ t419).size + 1 ≤ 9223372036854775807 then (some ((((((strOfNums y415) ++ (⟨#[40]⟩ : ByteArray)) ++ t418) ++ (⟨#[44]⟩ : ByteArray)) ++ t419) ++ (⟨#[41]⟩ : ByteArray))) else (none)) else (none))) else (none)) else (none))) else (none))) else (none)) else (none)))
def impl_caseText.T6 : Bool × List (List Nat × List Nat) := (true, [([], []), ([0], [0]), ([1], [1]), ([2], [2]), ([3], [3]), ([4], [4]), ([5], [5]), ([], []), ([], []), ([8], [8]), ([7, 9], [7, 9]), ([6, 10], [6, 10]), ([11], [11]), ([], []), ([], []), ([14], [14]), ([13, 15, 10], [13, 15]), ([12, 16], [12, 16]), ([17], [17]), ([18, 16, 0, 1, 2, 3, 4, 5, 6, 7, 8, 9, 10, 11, 12, 13, 14, 15, 16, 17, 18], [18])])
def impl_caseText.B6 : List Nat := [0, 1, 3, 7, 15, 31, 63, 0, 0, 256, 896, 2047, 4095, 0, 0, 16384, 59264, 131071, 262143, 524287]
theorem impl_caseText.tab6 : rtab .any (opsOf Tryd.f31 6) = impl_caseText.T6 := by kernel_rfl
theorem impl_caseText.bits6 : waitsOk impl_caseText.T6.2 impl_caseText.B6 = true := by kernel_rfl
set_option maxHeartbeats 8000000 in
set_option maxRecDepth 100000 in
theorem impl_caseText.calls (k : Nat) : ∀ (a0_0 : Int) (A0_1 : Option Addr) (c0_1 : Nat) (l0_1 : List (S68)) (a1 : Int) (r : ByteArray) (w : World) (hr0_1 : Kd.C k68 w A0_1 l0_1.length l0_1) (hc0_1 : l0_1.length ≤ c0_1) (h : impl_caseText.f k a0_0 l0_1 a1 = some r),
  Calls Tryd.prog 31 #[.agg #[.int .i64 a0_0, .slice A0_1 l0_1.length c0_1], .int .i64 a1] w fun e w' => e = .returned (.string r) ∧ Below w.heap.size w w' := by
 induction k using Nat.strongRecOn with
 | _ k ih =>
 intro a0_0 A0_1 c0_1 l0_1 a1 r w hr0_1 hc0_1 h
 cases k with
 | zero => exact absurd h (by simp [impl_caseText.f])
 | succ k =>
 simp only [impl_caseText.f] at h
 have hu27 := Tryd.underlying27
 have hu68 := Tryd.underlying68
 have HR0_1 := mk_ hr0_1
 have HC0_1 := mk_ hc0_1
 clear hr0_1 hc0_1
 have HB := mk_ (Below.refl w.heap.size w)
 have H : (if a1 = (-1) then (some (⟨#[42]⟩ : ByteArray)) else (if a1 < 0 then ((strconv_Itoa_56.f (wrap64 ((-2) - a1))).bind fun t412 => (some t412)) else (if 0 ≤ a1 then (if a1 < (l0_1.length : Int) then ((some (([(wrap64 (97 + ((rd_T68 l0_1 a1).f0))) % 256] : List Int) : List Int)).bind fun y415 => (if (strOfNums y415).size + 1 ≤ 9223372036854775807 then ((impl_caseText.f k a0_0 l0_1 ((rd_T68 l0_1 a1).f1)).bind fun t418 => (if ((strOfNums y415) ++ (⟨#[40]⟩ : ByteArray)).size + t418.size ≤ 9223372036854775807 then (if (((strOfNums y415) ++ (⟨#[40]⟩ : ByteArray)) ++ t418).size + 1 ≤ 9223372036854775807 then ((impl_caseText.f k a0_0 l0_1 ((rd_T68 l0_1 a1).f2)).bind fun t419 => (if ((((strOfNums y415) ++ (⟨#[40]⟩ : ByteArray)) ++ t418) ++ (⟨#[44]⟩ : ByteArray)).size + t419.size ≤ 9223372036854775807 then (if (((((strOfNums y415) ++ (⟨#[40]⟩ : ByteArray)) ++ t418) ++ (⟨#[44]⟩ : ByteArray)) ++ t419).size + 1 ≤ 9223372036854775807 then (some ((((((strOfNums y415) ++ (⟨#[40]⟩ : ByteArray)) ++ t418) ++ (⟨#[44]⟩ : ByteArray)) ++ t419) ++ (⟨#[41]⟩ : ByteArray))) else (none)) else (none))) else (none)) else (none))) else (none))) else (none)) else (none)))) = some r := h
 clear h
 revert H; refine it_ (qt_ fun c3b0 c3b1 H => ?_) (qfk_ fun c3 c3b0 c3b1 H => ?_)
 ·obtain rfl := Option.some.inj H
  go_enter Tryd.func31, Tryd.ntmps31
  go_wp2_with (first | (refine gx_ 2 #[.int .i64 a0_0, .slice A0_1 l0_1.length c0_1] 27 ?_; intro gb411 hg w4 hbox hb; have GW411 := gm_ hg HB.out; have GE411 := gm_ hg HB.out; replace HB := mk_ (below_step (below_at HB.out) hb); clear hb hbox hg))
  go_ret
  exact ⟨er_, at_ HB.out⟩
 revert H; refine it_ (dt_ fun c5b0 H => ?_) (df_ fun c5b0 H => ?_)
 ·replace H := Option.bind_eq_some_iff.mp H
  obtain ⟨t412, A60, H⟩ := H
  replace H : (some t412) = some r := H
  have A6 := mk_ A60
  clear A60
  obtain rfl := Option.some.inj H
  go_enter Tryd.func31, Tryd.ntmps31
  go_wp2_with (first | (refine gx_ 2 #[.int .i64 a0_0, .slice A0_1 l0_1.length c0_1] 27 ?_; intro gb411 hg w7 hbox hb; have GW411 := gm_ hg HB.out; have GE411 := gm_ hg HB.out; replace HB := mk_ (below_step (below_at HB.out) hb); clear hb hbox hg) | (refine gc_ 56 (some 14) Tryd.func56 #[.int .i64 (wrap64 ((-2) - a1))] ?_; (with_reducible refine (strconv_Itoa_56.calls (wrap64 ((-2) - a1)) t412 _ A6.out).mono ?_); rintro e w' ⟨rfl, ⟨nd, rfl⟩⟩; refine ⟨_, rfl, ?_⟩))
  go_ret
  exact ⟨er_, at_ HB.out⟩
 revert H; refine g_ (dt_ fun c8b0 => g_ (dt_ fun c9b0 H => ?_))
 obtain ⟨y415, hy415⟩ : ∃ y_ : List Int, y_ = (([(wrap64 (97 + ((rd_T68 l0_1 a1).f0))) % 256] : List Int)) := ⟨_, rfl⟩
 first | (replace H := bn_ hy415 H; try dsimp only at H) | rw [← hy415] at H
 have Ny415 := mk_ hy415
 clear hy415
 revert H; refine g_ (fun c10 H => ?_)
 have c10b0 := eq_true c10
 have c10b1 : decide ((strOfNums y415).size + 1 ≤ 9223372036854775807) = true := decide_eq_true c10
 try have c10b2 : (9223372036854775807 < (strOfNums y415).size + 1) = False := eq_false (Nat.not_lt.2 c10)
 revert H; refine bd_ fun t418 A11 H => ?_
 try dsimp only at H
 revert H; refine g_ (fun c12 H => ?_)
 have c12b0 := eq_true c12
 have c12b1 : decide (((strOfNums y415) ++ (⟨#[40]⟩ : ByteArray)).size + t418.size ≤ 9223372036854775807) = true := decide_eq_true c12
 try have c12b2 : (9223372036854775807 < ((strOfNums y415) ++ (⟨#[40]⟩ : ByteArray)).size + t418.size) = False := eq_false (Nat.not_lt.2 c12)
 try (have c12b3 := c12b2; simp only [ByteArray.size_append', show (⟨#[40]⟩ : ByteArray).size = 1 from rfl] at c12b3)
 revert H; refine g_ (fun c13 H => ?_)
 have c13b0 := eq_true c13
 have c13b1 : decide ((((strOfNums y415) ++ (⟨#[40]⟩ : ByteArray)) ++ t418).size + 1 ≤ 9223372036854775807) = true := decide_eq_true c13
 try have c13b2 : (9223372036854775807 < (((strOfNums y415) ++ (⟨#[40]⟩ : ByteArray)) ++ t418).size + 1) = False := eq_false (Nat.not_lt.2 c13)
 try (have c13b3 := c13b2; simp only [ByteArray.size_append', show (⟨#[40]⟩ : ByteArray).size = 1 from rfl] at c13b3)
 revert H; refine bd_ fun t419 A14 H => ?_
 try dsimp only at H
 revert H; refine g_ (fun c15 H => ?_)
 have c15b0 := eq_true c15
 have c15b1 : decide (((((strOfNums y415) ++ (⟨#[40]⟩ : ByteArray)) ++ t418) ++ (⟨#[44]⟩ : ByteArray)).size + t419.size ≤ 9223372036854775807) = true := decide_eq_true c15
 try have c15b2 : (9223372036854775807 < ((((strOfNums y415) ++ (⟨#[40]⟩ : ByteArray)) ++ t418) ++ (⟨#[44]⟩ : ByteArray)).size + t419.size) = False := eq_false (Nat.not_lt.2 c15)
 try (have c15b3 := c15b2; simp only [ByteArray.size_append', show (⟨#[40]⟩ : ByteArray).size = 1 from rfl, show (⟨#[44]⟩ : ByteArray).size = 1 from rfl] at c15b3)
 revert H; refine g_ (fun c16 H => ?_)
 have c16b0 := eq_true c16
 have c16b1 : decide ((((((strOfNums y415) ++ (⟨#[40]⟩ : ByteArray)) ++ t418) ++ (⟨#[44]⟩ : ByteArray)) ++ t419).size + 1 ≤ 9223372036854775807) = true := decide_eq_true c16
 try have c16b2 : (9223372036854775807 < (((((strOfNums y415) ++ (⟨#[40]⟩ : ByteArray)) ++ t418) ++ (⟨#[44]⟩ : ByteArray)) ++ t419).size + 1) = False := eq_false (Nat.not_lt.2 c16)
 try (have c16b3 := c16b2; simp only [ByteArray.size_append', show (⟨#[40]⟩ : ByteArray).size = 1 from rfl, show (⟨#[44]⟩ : ByteArray).size = 1 from rfl] at c16b3)
 obtain rfl := Option.some.inj H
 go_enter Tryd.func31, Tryd.ntmps31
 try go_wp2_with (first | (refine gx_ 2 #[.int .i64 a0_0, .slice A0_1 l0_1.length c0_1] 27 ?_; intro gb411 hg w17 hbox hb; have BK411 := mk_ (hbox); have GW411 := gm_ hg HB.out; have GE411 := gm_ hg HB.out; replace HB := mk_ (below_step (below_at HB.out) hb); clear hb hbox hg; have hcz18_0 := blk_cell BK411.out 0; have hcz18_1 := blk_cell BK411.out 1; have hfz18_0 := blk_frozen BK411.out 0; have hfz18_1 := blk_frozen BK411.out 1; have p413 : 0 ≤ (a1 : Int) := oa_; have q413 : a1 < (l0_1.length : Int) := oa_; obtain ⟨ad413, e413, hx413_0, hx413_1, hx413_2⟩ := at_T68 HR0_1.out a1 p413 q413; cases e413; replace hx413_0 := cel HB.out hx413_0; replace hx413_1 := cel HB.out hx413_1; replace hx413_2 := cel HB.out hx413_2; replace p413 := eq_true p413; replace q413 := eq_true q413) | (refine gx_ 5 #[.int .i64 0, .int .i64 0, .int .i64 0] 68 ?_; intro gb414 hg w19 hbox hb; have BK414 := mk_ (hbox); have GW414 := gw_ hg HB.out; have GE414 := gw_ hg HB.out; replace HB := mk_ (below_step (at_ HB.out) hb); have NB411_414 := nl_ hg BK411.out; have NB414_411 := ng_ hg BK411.out; replace BK411 := mk_ (blk_at BK411.out hb); clear hb hbox hg; have hnb20 := NB414_411.out; have hnc20 := NB411_414.out; have hcz21_0 := blk_cell BK414.out 0; have hcz21_1 := blk_cell BK414.out 1; have hcz21_2 := blk_cell BK414.out 2; have hfz21_0 := blk_frozen BK414.out 0; have hfz21_1 := blk_frozen BK414.out 1; have hfz21_2 := blk_frozen BK414.out 2))
 have n0_ : Aside0 ((((w19.setCell ⟨gb414, 0, none⟩ (.int .i64 ((rd_T68 l0_1 a1).f0))).setCell ⟨gb414, 1, none⟩ (.int .i64 ((rd_T68 l0_1 a1).f1))).setCell ⟨gb414, 2, none⟩ (.int .i64 ((rd_T68 l0_1 a1).f2))).heap[gb411]? = some (.cells #[.int .i64 a0_0, .slice (some ad413) l0_1.length c0_1] 27 (0, 0))) := ⟨by refine bs_ ?_; refine blk_far ?_ NB411_414.out _; refine bs_ ?_; refine blk_far ?_ NB411_414.out _; refine bs_ ?_; refine blk_far ?_ NB411_414.out _; refine bs_ ?_; exact BK411.out⟩
 have n1_ : Aside0 ((((w19.setCell ⟨gb414, 0, none⟩ (.int .i64 ((rd_T68 l0_1 a1).f0))).setCell ⟨gb414, 1, none⟩ (.int .i64 ((rd_T68 l0_1 a1).f1))).setCell ⟨gb414, 2, none⟩ (.int .i64 ((rd_T68 l0_1 a1).f2))).heap[gb414]? = some (.cells #[.int .i64 ((rd_T68 l0_1 a1).f0), .int .i64 ((rd_T68 l0_1 a1).f1), .int .i64 ((rd_T68 l0_1 a1).f2)] 68 (0, 0))) := ⟨by refine bs_ ?_; refine blk_put (cs := #[.int .i64 ((rd_T68 l0_1 a1).f0), .int .i64 ((rd_T68 l0_1 a1).f1), .int .i64 0]) ?_ 2 _ rfl; refine bs_ ?_; refine blk_put (cs := #[.int .i64 ((rd_T68 l0_1 a1).f0), .int .i64 0, .int .i64 0]) ?_ 1 _ rfl; refine bs_ ?_; refine blk_put (cs := #[.int .i64 0, .int .i64 0, .int .i64 0]) ?_ 0 _ rfl; refine bs_ ?_; exact BK414.out⟩
 have n2_ : Aside0 (Below w.heap.size w (((w19.setCell ⟨gb414, 0, none⟩ (.int .i64 ((rd_T68 l0_1 a1).f0))).setCell ⟨gb414, 1, none⟩ (.int .i64 ((rd_T68 l0_1 a1).f1))).setCell ⟨gb414, 2, none⟩ (.int .i64 ((rd_T68 l0_1 a1).f2)))) := ⟨at_ HB.out⟩
 (try clear BK411)
 (try clear BK414)
 (try clear HB)
 generalize (((w19.setCell ⟨gb414, 0, none⟩ (.int .i64 ((rd_T68 l0_1 a1).f0))).setCell ⟨gb414, 1, none⟩ (.int .i64 ((rd_T68 l0_1 a1).f1))).setCell ⟨gb414, 2, none⟩ (.int .i64 ((rd_T68 l0_1 a1).f2))) = w22 at n0_ n1_ n2_ ⊢
 have BK411 := n0_
 have BK414 := n1_
 have HB := n2_
 clear n0_ n1_ n2_
 replace BK411 := mk_ (blk_drew BK411.out)
 replace BK414 := mk_ (blk_drew BK414.out)
 replace HB := mk_ (below_drew1 HB.out)
 refine start_ (n := 20) (S := fun w' => w'.cell? ⟨gb414, 0, none⟩ = some (.int .i64 ((rd_T68 l0_1 a1).f0)) ∧ w'.cell? ⟨gb414, 1, none⟩ = some (.int .i64 ((rd_T68 l0_1 a1).f1)) ∧ w'.cell? ⟨gb414, 2, none⟩ = some (.int .i64 ((rd_T68 l0_1 a1).f2)) ∧ w'.cell? ⟨gb411, 0, none⟩ = some (.int .i64 a0_0) ∧ w'.cell? ⟨gb411, 1, none⟩ = some (.slice (some ad413) l0_1.length c0_1)) (ds := []) #[false, false, false, false, false, false, false, false, false, false, false, false, false, false, false, false, false, false, false, false] (by kernel_rfl) rfl rfl ⟨(blk_cell BK414.out 0).trans rfl, (blk_cell BK414.out 1).trans rfl, (blk_cell BK414.out 2).trans rfl, (blk_cell BK411.out 0).trans rfl, (blk_cell BK411.out 1).trans rfl⟩ (fun hHeld => ?_); refine with_tabW impl_caseText.tab6 impl_caseText.bits6 (fun HT_ HW_ => ?_)
 generalize w22.drew = w23 at BK411 BK414 HB hHeld ⊢
 refine pus_ 0 (some 20) (ao_ HT_) ?_
 refine pus_ 8 (some 28) (ao_ HT_) ?_
 refine pus_ 14 (some 34) (ao_ HT_) ?_
 refine tas_ 1 (some 21) (to_ HT_ HW_) hHeld ?_
 refine pus_ 2 (some 22) (ao_ HT_) ?_
 refine pus_ 3 (some 23) (ao_ HT_) ?_
 refine tas_ 7 (some 27) (to_ HT_ HW_) hHeld ?_
 refine tas_ 9 (some 29) (to_ HT_ HW_) hHeld ?_
 refine tas_ 13 (some 33) (to_ HT_ HW_) hHeld ?_
 refine tas_ 15 (some 35) (to_ HT_ HW_) hHeld ?_
 refine join_ (σ := Value) 3 #[true, true, true, true, true, true, true, true, true, true, true, true, true, true, true, true, true, false, false, false] (fun s_ => [(24, s_), (25, .string (strOfNums y415)), (30, .string t418), (36, .string t419), (26, .string ((strOfNums y415) ++ (⟨#[40]⟩ : ByteArray))), (31, .string (((strOfNums y415) ++ (⟨#[40]⟩ : ByteArray)) ++ t418)), (32, .string ((((strOfNums y415) ++ (⟨#[40]⟩ : ByteArray)) ++ t418) ++ (⟨#[44]⟩ : ByteArray)))]) (fun s_ w' => (w'.cell? ⟨gb414, 0, none⟩ = some (.int .i64 ((rd_T68 l0_1 a1).f0)) ∧ w'.cell? ⟨gb414, 1, none⟩ = some (.int .i64 ((rd_T68 l0_1 a1).f1)) ∧ w'.cell? ⟨gb414, 2, none⟩ = some (.int .i64 ((rd_T68 l0_1 a1).f2)) ∧ w'.cell? ⟨gb411, 0, none⟩ = some (.int .i64 a0_0) ∧ w'.cell? ⟨gb411, 1, none⟩ = some (.slice (some ad413) l0_1.length c0_1)) ∧ (Kd.R (Kd.int .u8) 5 w' w.heap.size (fun _ => True) s_ y415) ∧ (w'.heap[gb411]? = some (.cells #[.int .i64 a0_0, .slice (some ad413) l0_1.length c0_1] 27 (0, 0))) ∧ (w'.heap[gb414]? = some (.cells #[.int .i64 ((rd_T68 l0_1 a1).f0), .int .i64 ((rd_T68 l0_1 a1).f1), .int .i64 ((rd_T68 l0_1 a1).f2)] 68 (0, 0))) ∧ (Below w.heap.size w w')) ?_ ?_
 rotate_left
 ·intro hJ4_5_10_16
  refine join_ (σ := Value) 4 #[true, true, true, true, true, true, true, true, true, true, true, true, true, true, true, true, false, false, false, false] (fun s_ => [(24, s_), (25, .string (strOfNums y415)), (30, .string t418), (26, .string ((strOfNums y415) ++ (⟨#[40]⟩ : ByteArray))), (31, .string (((strOfNums y415) ++ (⟨#[40]⟩ : ByteArray)) ++ t418)), (32, .string ((((strOfNums y415) ++ (⟨#[40]⟩ : ByteArray)) ++ t418) ++ (⟨#[44]⟩ : ByteArray)))]) (fun s_ w' => (w'.cell? ⟨gb414, 0, none⟩ = some (.int .i64 ((rd_T68 l0_1 a1).f0)) ∧ w'.cell? ⟨gb414, 1, none⟩ = some (.int .i64 ((rd_T68 l0_1 a1).f1)) ∧ w'.cell? ⟨gb414, 2, none⟩ = some (.int .i64 ((rd_T68 l0_1 a1).f2)) ∧ w'.cell? ⟨gb411, 0, none⟩ = some (.int .i64 a0_0) ∧ w'.cell? ⟨gb411, 1, none⟩ = some (.slice (some ad413) l0_1.length c0_1)) ∧ (Kd.R (Kd.int .u8) 5 w' w.heap.size (fun _ => True) s_ y415) ∧ (w'.heap[gb411]? = some (.cells #[.int .i64 a0_0, .slice (some ad413) l0_1.length c0_1] 27 (0, 0))) ∧ (w'.heap[gb414]? = some (.cells #[.int .i64 ((rd_T68 l0_1 a1).f0), .int .i64 ((rd_T68 l0_1 a1).f1), .int .i64 ((rd_T68 l0_1 a1).f2)] 68 (0, 0))) ∧ (Below w.heap.size w w')) ?_ ?_
  rotate_left
  rotate_left
  ·skip
   rintro v416 w28 ⟨hS_, h0_, h1_, h2_, h3_⟩
   have n0_ := mk_ h0_
   have n1_ := mk_ h1_
   have n2_ := mk_ h2_
   have n3_ := mk_ h3_
   clear BK411
   clear BK414
   clear HB
   clear h0_ h1_ h2_ h3_
   have HO417 := n0_
   have BK411 := n1_
   have BK414 := n2_
   have HB := n3_
   clear n0_ n1_ n2_ n3_
   have hHeld := hS_
   refine norm_ (a' := ?_) ?_ ?_
   rotate_left
   ·simp only [putAll, Act.put, z0_, z1_, z2_]
    rfl
   refine ons_ 16 (some 36) (oo_ HT_) (fun K hK => ?_)
   refine goes_ Tryd.func31 (by kernel_rfl) rfl #[.agg #[.int .i64 a0_0, .slice (some ad413) l0_1.length c0_1], .int .i64 ((rd_T68 l0_1 a1).f2)] (by rfl) rfl rfl gl_ ?_
   with_reducible refine (ih k (by omega) a0_0 _ _ l0_1 ((rd_T68 l0_1 a1).f2) t419 _ ?side1 ?side2 A14.out).mono ?_
   (case side1 => exact Kd.C_below (Kd.C_below HR0_1.out HB.out) lt_)
   (case side2 => exact HC0_1.out)
   rintro e w29 ⟨rfl, hb⟩
   refine ⟨_, rfl, ?_⟩
   replace HO417 := mk_ (Kd.R_below (Kd.R_below HO417.out lt_) hb)
   replace BK411 := mk_ (blk_at BK411.out hb)
   replace BK414 := mk_ (blk_at BK414.out hb)
   replace HB := mk_ (below_step (at_ HB.out) hb)
   (try clear hb)
   (try clear hb2)
   (try clear hk)
   (try clear hi)
   refine hK.out _ _ ⟨(blk_cell BK414.out 0).trans rfl, (blk_cell BK414.out 1).trans rfl, (blk_cell BK414.out 2).trans rfl, (blk_cell BK411.out 0).trans rfl, (blk_cell BK411.out 1).trans rfl⟩ (fun hHeld => ?_)
   clear hK K
   refine nor_ (some 36) ?_
   exact norm_ (by first | (simp only [putAll, Act.put, z0_, z1_, z2_]; done) | (simp only [putAll, Act.put, z0_, z1_, z2_]; rfl)) (hJ4_5_10_16 (v416) _ ⟨hHeld, (Kd.R_below HO417.out lt_), (bk_ BK411.out), (bk_ BK414.out), (at_ HB.out)⟩)
  intro hJ4_5_10
  refine join_ (σ := Value) 7 #[true, true, true, true, true, false, false, true, true, true, true, false, false, true, true, true, true, false, false, false] (fun s_ => [(24, s_), (30, .string t418), (36, .string t419)]) (fun s_ w' => (w'.cell? ⟨gb414, 0, none⟩ = some (.int .i64 ((rd_T68 l0_1 a1).f0)) ∧ w'.cell? ⟨gb414, 1, none⟩ = some (.int .i64 ((rd_T68 l0_1 a1).f1)) ∧ w'.cell? ⟨gb414, 2, none⟩ = some (.int .i64 ((rd_T68 l0_1 a1).f2)) ∧ w'.cell? ⟨gb411, 0, none⟩ = some (.int .i64 a0_0) ∧ w'.cell? ⟨gb411, 1, none⟩ = some (.slice (some ad413) l0_1.length c0_1)) ∧ (Kd.R (Kd.int .u8) 5 w' w.heap.size (fun _ => True) s_ y415) ∧ (w'.heap[gb411]? = some (.cells #[.int .i64 a0_0, .slice (some ad413) l0_1.length c0_1] 27 (0, 0))) ∧ (w'.heap[gb414]? = some (.cells #[.int .i64 ((rd_T68 l0_1 a1).f0), .int .i64 ((rd_T68 l0_1 a1).f1), .int .i64 ((rd_T68 l0_1 a1).f2)] 68 (0, 0))) ∧ (Below w.heap.size w w')) ?_ ?_
  rotate_left
  rotate_left
  ·skip
   rintro v416 w28 ⟨hS_, h0_, h1_, h2_, h3_⟩
   have n0_ := mk_ h0_
   have n1_ := mk_ h1_
   have n2_ := mk_ h2_
   have n3_ := mk_ h3_
   clear BK411
   clear BK414
   clear HB
   clear h0_ h1_ h2_ h3_
   have HO417 := n0_
   have BK411 := n1_
   have BK414 := n2_
   have HB := n3_
   clear n0_ n1_ n2_ n3_
   have hHeld := hS_
   refine norm_ (a' := ?_) ?_ ?_
   rotate_left
   ·simp only [putAll, Act.put, z0_, z1_, z2_]
    rfl
   refine ons_ 5 (some 25) (oo_ HT_) (fun K hK => ?_)
   have hcv29 := own_string (P := Tryd.prog) Tryd.underlying22 Tryd.underlying5 Tryd.underlying9 (Kd.own_of_R HO417.out)
   refine value_ (w1 := ?_) (v := ?_) (by rfl) rfl ?_ ?_
   rotate_left 2
   ·go_simp
    constructor
    ·rfl
    rfl
   clear hcv29
   refine hK.out _ _ ⟨(blk_cell BK414.out 0).trans rfl, (blk_cell BK414.out 1).trans rfl, (blk_cell BK414.out 2).trans rfl, (blk_cell BK411.out 0).trans rfl, (blk_cell BK411.out 1).trans rfl⟩ (fun hHeld => ?_)
   clear hK K
   refine nor_ (some 25) ?_
   refine pus_ 6 (some 26) (ao_ HT_) ?_
   refine pus_ 11 (some 31) (ao_ HT_) ?_
   refine pus_ 12 (some 32) (ao_ HT_) ?_
   exact norm_ (by first | (simp only [putAll, Act.put, z0_, z1_, z2_]; done) | (simp only [putAll, Act.put, z0_, z1_, z2_]; rfl)) (hJ4_5_10_16 (v416) _ ⟨hHeld, (Kd.R_below HO417.out lt_), (bk_ BK411.out), (bk_ BK414.out), (at_ HB.out)⟩)
  intro hJ4_10_16
  refine join_ (σ := Value) 7 #[true, true, true, true, true, true, true, true, true, true, false, false, false, true, true, true, false, false, false, false] (fun s_ => [(24, s_), (25, .string (strOfNums y415)), (26, .string ((strOfNums y415) ++ (⟨#[40]⟩ : ByteArray)))]) (fun s_ w' => (w'.cell? ⟨gb414, 0, none⟩ = some (.int .i64 ((rd_T68 l0_1 a1).f0)) ∧ w'.cell? ⟨gb414, 1, none⟩ = some (.int .i64 ((rd_T68 l0_1 a1).f1)) ∧ w'.cell? ⟨gb414, 2, none⟩ = some (.int .i64 ((rd_T68 l0_1 a1).f2)) ∧ w'.cell? ⟨gb411, 0, none⟩ = some (.int .i64 a0_0) ∧ w'.cell? ⟨gb411, 1, none⟩ = some (.slice (some ad413) l0_1.length c0_1)) ∧ (Kd.R (Kd.int .u8) 5 w' w.heap.size (fun _ => True) s_ y415) ∧ (w'.heap[gb411]? = some (.cells #[.int .i64 a0_0, .slice (some ad413) l0_1.length c0_1] 27 (0, 0))) ∧ (w'.heap[gb414]? = some (.cells #[.int .i64 ((rd_T68 l0_1 a1).f0), .int .i64 ((rd_T68 l0_1 a1).f1), .int .i64 ((rd_T68 l0_1 a1).f2)] 68 (0, 0))) ∧ (Below w.heap.size w w')) ?_ ?_
  rotate_left
  rotate_left
  ·skip
   rintro v416 w27 ⟨hS_, h0_, h1_, h2_, h3_⟩
   have n0_ := mk_ h0_
   have n1_ := mk_ h1_
   have n2_ := mk_ h2_
   have n3_ := mk_ h3_
   clear BK411
   clear BK414
   clear HB
   clear h0_ h1_ h2_ h3_
   have HO417 := n0_
   have BK411 := n1_
   have BK414 := n2_
   have HB := n3_
   clear n0_ n1_ n2_ n3_
   have hHeld := hS_
   refine norm_ (a' := ?_) ?_ ?_
   rotate_left
   ·simp only [putAll, Act.put, z0_, z1_, z2_]
    rfl
   refine ons_ 10 (some 30) (oo_ HT_) (fun K hK => ?_)
   refine goes_ Tryd.func31 (by kernel_rfl) rfl #[.agg #[.int .i64 a0_0, .slice (some ad413) l0_1.length c0_1], .int .i64 ((rd_T68 l0_1 a1).f1)] (by rfl) rfl rfl gl_ ?_
   with_reducible refine (ih k (by omega) a0_0 _ _ l0_1 ((rd_T68 l0_1 a1).f1) t418 _ ?side1 ?side2 A11.out).mono ?_
   (case side1 => exact Kd.C_below (Kd.C_below HR0_1.out HB.out) lt_)
   (case side2 => exact HC0_1.out)
   rintro e w28 ⟨rfl, hb⟩
   refine ⟨_, rfl, ?_⟩
   replace HO417 := mk_ (Kd.R_below (Kd.R_below HO417.out lt_) hb)
   replace BK411 := mk_ (blk_at BK411.out hb)
   replace BK414 := mk_ (blk_at BK414.out hb)
   replace HB := mk_ (below_step (at_ HB.out) hb)
   (try clear hb)
   (try clear hb2)
   (try clear hk)
   (try clear hi)
   refine hK.out _ _ ⟨(blk_cell BK414.out 0).trans rfl, (blk_cell BK414.out 1).trans rfl, (blk_cell BK414.out 2).trans rfl, (blk_cell BK411.out 0).trans rfl, (blk_cell BK411.out 1).trans rfl⟩ (fun hHeld => ?_)
   clear hK K
   refine nor_ (some 30) ?_
   refine pus_ 11 (some 31) (ao_ HT_) ?_
   refine pus_ 12 (some 32) (ao_ HT_) ?_
   exact norm_ (by first | (simp only [putAll, Act.put, z0_, z1_, z2_]; done) | (simp only [putAll, Act.put, z0_, z1_, z2_]; rfl)) (hJ4_5_10 (v416) _ ⟨hHeld, (Kd.R_below HO417.out lt_), (bk_ BK411.out), (bk_ BK414.out), (at_ HB.out)⟩)
  intro hJ4_5
  refine join_ (σ := Value) 8 #[true, true, true, true, true, false, false, true, true, true, true, false, false, true, true, true, false, false, false, false] (fun s_ => [(24, s_), (30, .string t418)]) (fun s_ w' => (w'.cell? ⟨gb414, 0, none⟩ = some (.int .i64 ((rd_T68 l0_1 a1).f0)) ∧ w'.cell? ⟨gb414, 1, none⟩ = some (.int .i64 ((rd_T68 l0_1 a1).f1)) ∧ w'.cell? ⟨gb414, 2, none⟩ = some (.int .i64 ((rd_T68 l0_1 a1).f2)) ∧ w'.cell? ⟨gb411, 0, none⟩ = some (.int .i64 a0_0) ∧ w'.cell? ⟨gb411, 1, none⟩ = some (.slice (some ad413) l0_1.length c0_1)) ∧ (Kd.R (Kd.int .u8) 5 w' w.heap.size (fun _ => True) s_ y415) ∧ (w'.heap[gb411]? = some (.cells #[.int .i64 a0_0, .slice (some ad413) l0_1.length c0_1] 27 (0, 0))) ∧ (w'.heap[gb414]? = some (.cells #[.int .i64 ((rd_T68 l0_1 a1).f0), .int .i64 ((rd_T68 l0_1 a1).f1), .int .i64 ((rd_T68 l0_1 a1).f2)] 68 (0, 0))) ∧ (Below w.heap.size w w')) ?_ ?_
  rotate_left
  rotate_left
  ·skip
   rintro v416 w27 ⟨hS_, h0_, h1_, h2_, h3_⟩
   have n0_ := mk_ h0_
   have n1_ := mk_ h1_
   have n2_ := mk_ h2_
   have n3_ := mk_ h3_
   clear BK411
   clear BK414
   clear HB
   clear h0_ h1_ h2_ h3_
   have HO417 := n0_
   have BK411 := n1_
   have BK414 := n2_
   have HB := n3_
   clear n0_ n1_ n2_ n3_
   have hHeld := hS_
   refine norm_ (a' := ?_) ?_ ?_
   rotate_left
   ·simp only [putAll, Act.put, z0_, z1_, z2_]
    rfl
   refine two_ (i := 5) (j := 16) (Ni := some 25) (Nj := some 36) #[true, true, true, true, true, true, false, true, true, true, true, false, false, true, true, true, false, false, false, false] #[true, true, true, true, true, false, false, true, true, true, true, false, false, true, true, true, true, false, false, false] rfl rfl rfl rfl (two_of HT_.out (by kernel_rfl)) (by decide) (by decide) (fun K hK => ?_) (fun K hK => ?_)
   rotate_left
   ·skip
    refine goes_ Tryd.func31 (by kernel_rfl) rfl #[.agg #[.int .i64 a0_0, .slice (some ad413) l0_1.length c0_1], .int .i64 ((rd_T68 l0_1 a1).f2)] (by rfl) rfl rfl gl_ ?_
    with_reducible refine (ih k (by omega) a0_0 _ _ l0_1 ((rd_T68 l0_1 a1).f2) t419 _ ?side1 ?side2 A14.out).mono ?_
    (case side1 => exact Kd.C_below (Kd.C_below HR0_1.out HB.out) lt_)
    (case side2 => exact HC0_1.out)
    rintro e w28 ⟨rfl, hb⟩
    refine ⟨_, rfl, ?_⟩
    replace HO417 := mk_ (Kd.R_below (Kd.R_below HO417.out lt_) hb)
    replace BK411 := mk_ (blk_at BK411.out hb)
    replace BK414 := mk_ (blk_at BK414.out hb)
    replace HB := mk_ (below_step (at_ HB.out) hb)
    (try clear hb)
    (try clear hb2)
    (try clear hk)
    (try clear hi)
    refine hK.out _ _ ⟨(blk_cell BK414.out 0).trans rfl, (blk_cell BK414.out 1).trans rfl, (blk_cell BK414.out 2).trans rfl, (blk_cell BK411.out 0).trans rfl, (blk_cell BK411.out 1).trans rfl⟩ (fun hHeld => ?_)
    clear hK K
    refine nor_ (some 36) ?_
    exact norm_ (by first | (simp only [putAll, Act.put, z0_, z1_, z2_]; done) | (simp only [putAll, Act.put, z0_, z1_, z2_]; rfl)) (hJ4_10_16 (v416) _ ⟨hHeld, (Kd.R_below HO417.out lt_), (bk_ BK411.out), (bk_ BK414.out), (at_ HB.out)⟩)
   skip
   have hcv28 := own_string (P := Tryd.prog) Tryd.underlying22 Tryd.underlying5 Tryd.underlying9 (Kd.own_of_R HO417.out)
   refine value_ (w1 := ?_) (v := ?_) (by rfl) rfl ?_ ?_
   rotate_left 2
   ·go_simp
    constructor
    ·rfl
    rfl
   clear hcv28
   refine hK.out _ _ ⟨(blk_cell BK414.out 0).trans rfl, (blk_cell BK414.out 1).trans rfl, (blk_cell BK414.out 2).trans rfl, (blk_cell BK411.out 0).trans rfl, (blk_cell BK411.out 1).trans rfl⟩ (fun hHeld => ?_)
   clear hK K
   refine nor_ (some 25) ?_
   refine pus_ 6 (some 26) (ao_ HT_) ?_
   refine pus_ 11 (some 31) (ao_ HT_) ?_
   refine pus_ 12 (some 32) (ao_ HT_) ?_
   exact norm_ (by first | (simp only [putAll, Act.put, z0_, z1_, z2_]; done) | (simp only [putAll, Act.put, z0_, z1_, z2_]; rfl)) (hJ4_5_10 (v416) _ ⟨hHeld, (Kd.R_below HO417.out lt_), (bk_ BK411.out), (bk_ BK414.out), (at_ HB.out)⟩)
  intro hJ4_10
  refine join_ (σ := Unit) 8 #[true, true, true, true, false, false, false, true, true, true, true, false, false, true, true, true, true, false, false, false] (fun s_ => [(30, .string t418), (36, .string t419)]) (fun s_ w' => (w'.cell? ⟨gb414, 0, none⟩ = some (.int .i64 ((rd_T68 l0_1 a1).f0)) ∧ w'.cell? ⟨gb414, 1, none⟩ = some (.int .i64 ((rd_T68 l0_1 a1).f1)) ∧ w'.cell? ⟨gb414, 2, none⟩ = some (.int .i64 ((rd_T68 l0_1 a1).f2)) ∧ w'.cell? ⟨gb411, 0, none⟩ = some (.int .i64 a0_0) ∧ w'.cell? ⟨gb411, 1, none⟩ = some (.slice (some ad413) l0_1.length c0_1)) ∧ (w'.heap[gb411]? = some (.cells #[.int .i64 a0_0, .slice (some ad413) l0_1.length c0_1] 27 (0, 0))) ∧ (w'.heap[gb414]? = some (.cells #[.int .i64 ((rd_T68 l0_1 a1).f0), .int .i64 ((rd_T68 l0_1 a1).f1), .int .i64 ((rd_T68 l0_1 a1).f2)] 68 (0, 0))) ∧ (Below w.heap.size w w')) ?_ ?_
  rotate_left
  rotate_left
  ·skip
   rintro _ w26 ⟨hS_, h0_, h1_, h2_⟩
   have n0_ := mk_ h0_
   have n1_ := mk_ h1_
   have n2_ := mk_ h2_
   clear BK411
   clear BK414
   clear HB
   clear h0_ h1_ h2_
   have BK411 := n0_
   have BK414 := n1_
   have HB := n2_
   clear n0_ n1_ n2_
   have hHeld := hS_
   refine norm_ (a' := ?_) ?_ ?_
   rotate_left
   ·simp only [putAll, Act.put, z0_, z1_, z2_]
    rfl
   refine ons_ 4 (some 24) (oo_ HT_) (fun K hK => ?_)
   refine Kd.R_lit_step (Kd.int .u8) _ 5 ?hg (N := 24) ?hd (xs := ([(wrap64 (97 + ((rd_T68 l0_1 a1).f0))) % 256] : List Int)) (inner := [.int .u8 ((wrap64 (97 + ((rd_T68 l0_1 a1).f0))) % 256)]) (ok := fun _ => True) (okp := fun _ => True) ?hr ?hp (fun _ hk => hk) trivial (Below.refl _ _) (Nat.le_refl _) (by simp) ?_; (case hd => rfl); (case hg => rfl); (case hr => first | (go_simp; done) | (go_simp; rfl)); (case hp => exact (Reps.one (show Kd.M (Kd.int .u8) _ _ _ ((wrap64 (97 + ((rd_T68 l0_1 a1).f0))) % 256) [.int .u8 ((wrap64 (97 + ((rd_T68 l0_1 a1).f0))) % 256)] from rfl) (Reps.none _ _)))
   intro v416 w27 ho28 hb hg_ hnew_
   clear hg_ hnew_
   (first | rw [← Ny415.out] at ho28 | (simp only [Int.reduceToNat] at ho28; rw [← Ny415.out] at ho28))
   have HO417 := mk_ (Kd.R_lower ho28 (below_size (at_ HB.out)))
   replace BK411 := mk_ (blk_at BK411.out hb)
   replace BK414 := mk_ (blk_at BK414.out hb)
   replace HB := mk_ (below_step (at_ HB.out) hb)
   clear hb ho28
   refine hK.out _ _ ⟨(blk_cell BK414.out 0).trans rfl, (blk_cell BK414.out 1).trans rfl, (blk_cell BK414.out 2).trans rfl, (blk_cell BK411.out 0).trans rfl, (blk_cell BK411.out 1).trans rfl⟩ (fun hHeld => ?_)
   clear hK K
   refine nor_ (some 24) ?_
   exact norm_ (by first | (simp only [putAll, Act.put, z0_, z1_, z2_]; done) | (simp only [putAll, Act.put, z0_, z1_, z2_]; rfl)) (hJ4_10_16 (v416) _ ⟨hHeld, (Kd.R_below HO417.out lt_), (bk_ BK411.out), (bk_ BK414.out), (at_ HB.out)⟩)
  intro hJ10_16
  refine join_ (σ := Value) 9 #[true, true, true, true, true, false, false, true, true, true, false, false, false, true, true, true, false, false, false, false] (fun s_ => [(24, s_)]) (fun s_ w' => (w'.cell? ⟨gb414, 0, none⟩ = some (.int .i64 ((rd_T68 l0_1 a1).f0)) ∧ w'.cell? ⟨gb414, 1, none⟩ = some (.int .i64 ((rd_T68 l0_1 a1).f1)) ∧ w'.cell? ⟨gb414, 2, none⟩ = some (.int .i64 ((rd_T68 l0_1 a1).f2)) ∧ w'.cell? ⟨gb411, 0, none⟩ = some (.int .i64 a0_0) ∧ w'.cell? ⟨gb411, 1, none⟩ = some (.slice (some ad413) l0_1.length c0_1)) ∧ (Kd.R (Kd.int .u8) 5 w' w.heap.size (fun _ => True) s_ y415) ∧ (w'.heap[gb411]? = some (.cells #[.int .i64 a0_0, .slice (some ad413) l0_1.length c0_1] 27 (0, 0))) ∧ (w'.heap[gb414]? = some (.cells #[.int .i64 ((rd_T68 l0_1 a1).f0), .int .i64 ((rd_T68 l0_1 a1).f1), .int .i64 ((rd_T68 l0_1 a1).f2)] 68 (0, 0))) ∧ (Below w.heap.size w w')) ?_ ?_
  rotate_left
  rotate_left
  ·skip
   rintro v416 w26 ⟨hS_, h0_, h1_, h2_, h3_⟩
   have n0_ := mk_ h0_
   have n1_ := mk_ h1_
   have n2_ := mk_ h2_
   have n3_ := mk_ h3_
   clear BK411
   clear BK414
   clear HB
   clear h0_ h1_ h2_ h3_
   have HO417 := n0_
   have BK411 := n1_
   have BK414 := n2_
   have HB := n3_
   clear n0_ n1_ n2_ n3_
   have hHeld := hS_
   refine norm_ (a' := ?_) ?_ ?_
   rotate_left
   ·simp only [putAll, Act.put, z0_, z1_, z2_]
    rfl
   refine two_ (i := 5) (j := 10) (Ni := some 25) (Nj := some 30) #[true, true, true, true, true, true, false, true, true, true, false, false, false, true, true, true, false, false, false, false] #[true, true, true, true, true, false, false, true, true, true, true, false, false, true, true, true, false, false, false, false] rfl rfl rfl rfl (two_of HT_.out (by kernel_rfl)) (by decide) (by decide) (fun K hK => ?_) (fun K hK => ?_)
   ·skip
    have hcv27 := own_string (P := Tryd.prog) Tryd.underlying22 Tryd.underlying5 Tryd.underlying9 (Kd.own_of_R HO417.out)
    refine value_ (w1 := ?_) (v := ?_) (by rfl) rfl ?_ ?_
    rotate_left 2
    ·go_simp
     constructor
     ·rfl
     rfl
    clear hcv27
    refine hK.out _ _ ⟨(blk_cell BK414.out 0).trans rfl, (blk_cell BK414.out 1).trans rfl, (blk_cell BK414.out 2).trans rfl, (blk_cell BK411.out 0).trans rfl, (blk_cell BK411.out 1).trans rfl⟩ (fun hHeld => ?_)
    clear hK K
    refine nor_ (some 25) ?_
    refine pus_ 6 (some 26) (ao_ HT_) ?_
    exact norm_ (by first | (simp only [putAll, Act.put, z0_, z1_, z2_]; done) | (simp only [putAll, Act.put, z0_, z1_, z2_]; rfl)) (hJ4_5 (v416) _ ⟨hHeld, (Kd.R_below HO417.out lt_), (bk_ BK411.out), (bk_ BK414.out), (at_ HB.out)⟩)
   skip
   refine goes_ Tryd.func31 (by kernel_rfl) rfl #[.agg #[.int .i64 a0_0, .slice (some ad413) l0_1.length c0_1], .int .i64 ((rd_T68 l0_1 a1).f1)] (by rfl) rfl rfl gl_ ?_
   with_reducible refine (ih k (by omega) a0_0 _ _ l0_1 ((rd_T68 l0_1 a1).f1) t418 _ ?side1 ?side2 A11.out).mono ?_
   (case side1 => exact Kd.C_below (Kd.C_below HR0_1.out HB.out) lt_)
   (case side2 => exact HC0_1.out)
   rintro e w27 ⟨rfl, hb⟩
   refine ⟨_, rfl, ?_⟩
   replace HO417 := mk_ (Kd.R_below (Kd.R_below HO417.out lt_) hb)
   replace BK411 := mk_ (blk_at BK411.out hb)
   replace BK414 := mk_ (blk_at BK414.out hb)
   replace HB := mk_ (below_step (at_ HB.out) hb)
   (try clear hb)
   (try clear hb2)
   (try clear hk)
   (try clear hi)
   refine hK.out _ _ ⟨(blk_cell BK414.out 0).trans rfl, (blk_cell BK414.out 1).trans rfl, (blk_cell BK414.out 2).trans rfl, (blk_cell BK411.out 0).trans rfl, (blk_cell BK411.out 1).trans rfl⟩ (fun hHeld => ?_)
   clear hK K
   refine nor_ (some 30) ?_
   exact norm_ (by first | (simp only [putAll, Act.put, z0_, z1_, z2_]; done) | (simp only [putAll, Act.put, z0_, z1_, z2_]; rfl)) (hJ4_10 (v416) _ ⟨hHeld, (Kd.R_below HO417.out lt_), (bk_ BK411.out), (bk_ BK414.out), (at_ HB.out)⟩)
  intro hJ4
  refine join_ (σ := Unit) 9 #[true, true, true, true, false, false, false, true, true, true, true, false, false, true, true, true, false, false, false, false] (fun s_ => [(30, .string t418)]) (fun s_ w' => (w'.cell? ⟨gb414, 0, none⟩ = some (.int .i64 ((rd_T68 l0_1 a1).f0)) ∧ w'.cell? ⟨gb414, 1, none⟩ = some (.int .i64 ((rd_T68 l0_1 a1).f1)) ∧ w'.cell? ⟨gb414, 2, none⟩ = some (.int .i64 ((rd_T68 l0_1 a1).f2)) ∧ w'.cell? ⟨gb411, 0, none⟩ = some (.int .i64 a0_0) ∧ w'.cell? ⟨gb411, 1, none⟩ = some (.slice (some ad413) l0_1.length c0_1)) ∧ (w'.heap[gb411]? = some (.cells #[.int .i64 a0_0, .slice (some ad413) l0_1.length c0_1] 27 (0, 0))) ∧ (w'.heap[gb414]? = some (.cells #[.int .i64 ((rd_T68 l0_1 a1).f0), .int .i64 ((rd_T68 l0_1 a1).f1), .int .i64 ((rd_T68 l0_1 a1).f2)] 68 (0, 0))) ∧ (Below w.heap.size w w')) ?_ ?_
  rotate_left
  ·intro hJ10
   refine two_ (i := 4) (j := 10) (Ni := some 24) (Nj := some 30) #[true, true, true, true, true, false, false, true, true, true, false, false, false, true, true, true, false, false, false, false] #[true, true, true, true, false, false, false, true, true, true, true, false, false, true, true, true, false, false, false, false] rfl rfl rfl rfl (two_of HT_.out (by kernel_rfl)) (by decide) (by decide) (fun K hK => ?_) (fun K hK => ?_)
   rotate_left
   ·skip
    refine goes_ Tryd.func31 (by kernel_rfl) rfl #[.agg #[.int .i64 a0_0, .slice (some ad413) l0_1.length c0_1], .int .i64 ((rd_T68 l0_1 a1).f1)] (by rfl) rfl rfl gl_ ?_
    with_reducible refine (ih k (by omega) a0_0 _ _ l0_1 ((rd_T68 l0_1 a1).f1) t418 _ ?side1 ?side2 A11.out).mono ?_
    (case side1 => exact Kd.C_below (Kd.C_below HR0_1.out HB.out) lt_)
    (case side2 => exact HC0_1.out)
    rintro e w24 ⟨rfl, hb⟩
    refine ⟨_, rfl, ?_⟩
    replace BK411 := mk_ (blk_at BK411.out hb)
    replace BK414 := mk_ (blk_at BK414.out hb)
    replace HB := mk_ (below_step (at_ HB.out) hb)
    (try clear hb)
    (try clear hb2)
    (try clear hk)
    (try clear hi)
    refine hK.out _ _ ⟨(blk_cell BK414.out 0).trans rfl, (blk_cell BK414.out 1).trans rfl, (blk_cell BK414.out 2).trans rfl, (blk_cell BK411.out 0).trans rfl, (blk_cell BK411.out 1).trans rfl⟩ (fun hHeld => ?_)
    clear hK K
    refine nor_ (some 30) ?_
    exact norm_ (by first | (simp only [putAll, Act.put, z0_, z1_, z2_]; done) | (simp only [putAll, Act.put, z0_, z1_, z2_]; rfl)) (hJ10 () _ ⟨hHeld, (bk_ BK411.out), (bk_ BK414.out), (at_ HB.out)⟩)
   skip
   refine Kd.R_lit_step (Kd.int .u8) _ 5 ?hg (N := 24) ?hd (xs := ([(wrap64 (97 + ((rd_T68 l0_1 a1).f0))) % 256] : List Int)) (inner := [.int .u8 ((wrap64 (97 + ((rd_T68 l0_1 a1).f0))) % 256)]) (ok := fun _ => True) (okp := fun _ => True) ?hr ?hp (fun _ hk => hk) trivial (Below.refl _ _) (Nat.le_refl _) (by simp) ?_; (case hd => rfl); (case hg => rfl); (case hr => first | (go_simp; done) | (go_simp; rfl)); (case hp => exact (Reps.one (show Kd.M (Kd.int .u8) _ _ _ ((wrap64 (97 + ((rd_T68 l0_1 a1).f0))) % 256) [.int .u8 ((wrap64 (97 + ((rd_T68 l0_1 a1).f0))) % 256)] from rfl) (Reps.none _ _)))
   intro v416 w24 ho25 hb hg_ hnew_
   clear hg_ hnew_
   (first | rw [← Ny415.out] at ho25 | (simp only [Int.reduceToNat] at ho25; rw [← Ny415.out] at ho25))
   have HO417 := mk_ (Kd.R_lower ho25 (below_size (at_ HB.out)))
   replace BK411 := mk_ (blk_at BK411.out hb)
   replace BK414 := mk_ (blk_at BK414.out hb)
   replace HB := mk_ (below_step (at_ HB.out) hb)
   clear hb ho25
   refine hK.out _ _ ⟨(blk_cell BK414.out 0).trans rfl, (blk_cell BK414.out 1).trans rfl, (blk_cell BK414.out 2).trans rfl, (blk_cell BK411.out 0).trans rfl, (blk_cell BK411.out 1).trans rfl⟩ (fun hHeld => ?_)
   clear hK K
   refine nor_ (some 24) ?_
   exact norm_ (by first | (simp only [putAll, Act.put, z0_, z1_, z2_]; done) | (simp only [putAll, Act.put, z0_, z1_, z2_]; rfl)) (hJ4 (v416) _ ⟨hHeld, (Kd.R_below HO417.out lt_), (bk_ BK411.out), (bk_ BK414.out), (at_ HB.out)⟩)
  skip
  rintro _ w25 ⟨hS_, h0_, h1_, h2_⟩
  have n0_ := mk_ h0_
  have n1_ := mk_ h1_
  have n2_ := mk_ h2_
  clear BK411
  clear BK414
  clear HB
  clear h0_ h1_ h2_
  have BK411 := n0_
  have BK414 := n1_
  have HB := n2_
  clear n0_ n1_ n2_
  have hHeld := hS_
  refine norm_ (a' := ?_) ?_ ?_
  rotate_left
  ·simp only [putAll, Act.put, z0_, z1_, z2_]
   rfl
  refine two_ (i := 4) (j := 16) (Ni := some 24) (Nj := some 36) #[true, true, true, true, true, false, false, true, true, true, true, false, false, true, true, true, false, false, false, false] #[true, true, true, true, false, false, false, true, true, true, true, false, false, true, true, true, true, false, false, false] rfl rfl rfl rfl (two_of HT_.out (by kernel_rfl)) (by decide) (by decide) (fun K hK => ?_) (fun K hK => ?_)
  rotate_left
  ·skip
   refine goes_ Tryd.func31 (by kernel_rfl) rfl #[.agg #[.int .i64 a0_0, .slice (some ad413) l0_1.length c0_1], .int .i64 ((rd_T68 l0_1 a1).f2)] (by rfl) rfl rfl gl_ ?_
   with_reducible refine (ih k (by omega) a0_0 _ _ l0_1 ((rd_T68 l0_1 a1).f2) t419 _ ?side1 ?side2 A14.out).mono ?_
   (case side1 => exact Kd.C_below (Kd.C_below HR0_1.out HB.out) lt_)
   (case side2 => exact HC0_1.out)
   rintro e w26 ⟨rfl, hb⟩
   refine ⟨_, rfl, ?_⟩
   replace BK411 := mk_ (blk_at BK411.out hb)
   replace BK414 := mk_ (blk_at BK414.out hb)
   replace HB := mk_ (below_step (at_ HB.out) hb)
   (try clear hb)
   (try clear hb2)
   (try clear hk)
   (try clear hi)
   refine hK.out _ _ ⟨(blk_cell BK414.out 0).trans rfl, (blk_cell BK414.out 1).trans rfl, (blk_cell BK414.out 2).trans rfl, (blk_cell BK411.out 0).trans rfl, (blk_cell BK411.out 1).trans rfl⟩ (fun hHeld => ?_)
   clear hK K
   refine nor_ (some 36) ?_
   exact norm_ (by first | (simp only [putAll, Act.put, z0_, z1_, z2_]; done) | (simp only [putAll, Act.put, z0_, z1_, z2_]; rfl)) (hJ10_16 () _ ⟨hHeld, (bk_ BK411.out), (bk_ BK414.out), (at_ HB.out)⟩)
  skip
  refine Kd.R_lit_step (Kd.int .u8) _ 5 ?hg (N := 24) ?hd (xs := ([(wrap64 (97 + ((rd_T68 l0_1 a1).f0))) % 256] : List Int)) (inner := [.int .u8 ((wrap64 (97 + ((rd_T68 l0_1 a1).f0))) % 256)]) (ok := fun _ => True) (okp := fun _ => True) ?hr ?hp (fun _ hk => hk) trivial (Below.refl _ _) (Nat.le_refl _) (by simp) ?_; (case hd => rfl); (case hg => rfl); (case hr => first | (go_simp; done) | (go_simp; rfl)); (case hp => exact (Reps.one (show Kd.M (Kd.int .u8) _ _ _ ((wrap64 (97 + ((rd_T68 l0_1 a1).f0))) % 256) [.int .u8 ((wrap64 (97 + ((rd_T68 l0_1 a1).f0))) % 256)] from rfl) (Reps.none _ _)))
  intro v416 w26 ho27 hb hg_ hnew_
  clear hg_ hnew_
  (first | rw [← Ny415.out] at ho27 | (simp only [Int.reduceToNat] at ho27; rw [← Ny415.out] at ho27))
  have HO417 := mk_ (Kd.R_lower ho27 (below_size (at_ HB.out)))
  replace BK411 := mk_ (blk_at BK411.out hb)
  replace BK414 := mk_ (blk_at BK414.out hb)
  replace HB := mk_ (below_step (at_ HB.out) hb)
  clear hb ho27
  refine hK.out _ _ ⟨(blk_cell BK414.out 0).trans rfl, (blk_cell BK414.out 1).trans rfl, (blk_cell BK414.out 2).trans rfl, (blk_cell BK411.out 0).trans rfl, (blk_cell BK411.out 1).trans rfl⟩ (fun hHeld => ?_)
  clear hK K
  refine nor_ (some 24) ?_
  exact norm_ (by first | (simp only [putAll, Act.put, z0_, z1_, z2_]; done) | (simp only [putAll, Act.put, z0_, z1_, z2_]; rfl)) (hJ4_10 (v416) _ ⟨hHeld, (Kd.R_below HO417.out lt_), (bk_ BK411.out), (bk_ BK414.out), (at_ HB.out)⟩)
 rintro v416 w29 ⟨hS_, h0_, h1_, h2_, h3_⟩
 have n0_ := mk_ h0_
 have n1_ := mk_ h1_
 have n2_ := mk_ h2_
 have n3_ := mk_ h3_
 clear BK411
 clear BK414
 clear HB
 clear h0_ h1_ h2_ h3_
 have HO417 := n0_
 have BK411 := n1_
 have BK414 := n2_
 have HB := n3_
 clear n0_ n1_ n2_ n3_
 have hHeld := hS_
 refine norm_ (a' := ?_) ?_ ?_
 rotate_left
 ·simp only [putAll, Act.put, z0_, z1_, z2_]
  rfl
 refine pus_ 17 (some 37) (ao_ HT_) ?_
 refine pus_ 18 (some 38) (ao_ HT_) ?_
 refine pus_ 19 (some 4) (ao_ HT_) ?_
 refine done_ (done_of HT_.out (by kernel_rfl)) ?_
 try go_wp2
 go_ret
 exact ⟨er_, at_ HB.out⟩
end Go.Proofs.YtcaogllnbpmcgaaDoor.P

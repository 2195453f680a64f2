/- Go's functions come to just the answers of the Lean functions told here. -/
import Derived.Test.YtcaogllnbpmcgaaDoorPx12
namespace Go.Proofs.YtcaogllnbpmcgaaDoor.P
open Go.RowKit Go.Proofs.YtcaogllnbpmcgaaDoorW.PrintWords Go.Proofs.YtcaogllnbpmcgaaDoorW.PrintLast Go.Proofs.YtcaogllnbpmcgaaDoorW.PrintMore
attribute [local go_sem] max2_int min2_int max_two min_two max_three min_three max_four min_four
set_option linter.unusedVariables false
set_option linter.unusedSimpArgs false

/-! ### impl_caseText: function 31 -/
def impl_caseText.f : Nat → Int → List (S68) → Int → Option (ByteArray)
 | 0, _, _, _ => none
 | k + 1, a0_0, l0_1, a1 => if a1 = (-1) then (some (⟨#[42]⟩ : ByteArray)) else (if a1 < 0 then ((strconv_Itoa_56.f (wrap64 ((-2) - a1))).bind fun t161 => (some t161)) else (if 0 ≤ a1 then (if a1 < (l0_1.length : Int) then ((some (([(wrap64 (97 + ((rd_T68 l0_1 a1).f0))) % 256] : List Int) : List Int)).bind fun y164 => (if (strOfNums y164).size + 1 ≤ 9223372036854775807 then ((impl_caseText.f k a0_0 l0_1 ((rd_T68 l0_1 a1).f1)).bind fun t167 => (if ((strOfNums y164) ++ (⟨#[40]⟩ : ByteArray)).size + t167.size ≤ 9223372036854775807 then (if (((strOfNums y164) ++ (⟨#[40]⟩ : ByteArray)) ++ t167).size + 1 ≤ 9223372036854775807 then ((impl_caseText.f k a0_0 l0_1 ((rd_T68 l0_1 a1).f2)).bind fun t168 => (if ((((strOfNums y164) ++ (⟨#[40]⟩ : ByteArray)) ++ t167) ++ (⟨#[44]⟩ : ByteArray)).size + t168.size ≤ 9223372036854775807 then (if (((((strOfNums y164) ++ (⟨#[40]⟩ : ByteArray)) ++ t167) ++ (⟨#[44]⟩ : ByteArray)) ++ t168).size + 1 ≤ 9223372036854775807 then (some ((((((strOfNums y164) ++ (⟨#[40]⟩ : ByteArray)) ++ t167) ++ (⟨#[44]⟩ : ByteArray)) ++ t168) ++ (⟨#[41]⟩ : ByteArray))) else (none)) else (none))) else (none)) else (none))) else (none))) else (none)) else (none)))
def impl_caseText.T6 : Bool × List (List Nat × List Nat) := (true, [([], []), ([0], [0]), ([1], [1]), ([2], [2]), ([3], [3]), ([4], [4]), ([5], [5]), ([], []), ([], []), ([8], [8]), ([7, 9], [7, 9]), ([6, 10], [6, 10]), ([11], [11]), ([], []), ([], []), ([14], [14]), ([13, 15, 10], [13, 15]), ([12, 16], [12, 16]), ([17], [17]), ([18, 16, 0, 1, 2, 3, 4, 5, 6, 7, 8, 9, 10, 11, 12, 13, 14, 15, 16, 17, 18], [18])])
def impl_caseText.B6 : List Nat := [0, 1, 3, 7, 15, 31, 63, 0, 0, 256, 896, 2047, 4095, 0, 0, 16384, 59264, 131071, 262143, 524287]
theorem impl_caseText.tab6 : rtab .any (opsOf Tryd.f31 6) = impl_caseText.T6 := by kernel_rfl
theorem impl_caseText.bits6 : waitsOk impl_caseText.T6.2 impl_caseText.B6 = true := by kernel_rfl
set_option maxHeartbeats 8000000 in
set_option maxRecDepth 100000 in
theorem impl_caseText.calls (k : Nat) : ∀ (a0_0 : Int) (A0_1 : Option Addr) (c0_1 : Nat) (l0_1 : List (S68)) (a1 : Int) (r : ByteArray) (w : World) (hr0_1 : Kd.C k68 w A0_1 l0_1.length l0_1) (hc0_1 : l0_1.length ≤ c0_1) (h : impl_caseText.f k a0_0 l0_1 a1 = some r),
  Calls Tryd.prog 31 #[.agg #[.int .i64 a0_0, .slice A0_1 l0_1.length c0_1], .int .i64 a1] w fun e w' => e = .returned (.string r) ∧ Below w.heap.size w w' := by
 induction k using Nat.strongRecOn with
 | _ k ih =>
 intro a0_0 A0_1 c0_1 l0_1 a1 r w hr0_1 hc0_1 h
 cases k with
 | zero => exact absurd h (by simp [impl_caseText.f])
 | succ k =>
 simp only [impl_caseText.f] at h
 have hu27 := Tryd.underlying27
 have hu68 := Tryd.underlying68
 have HR0_1 := mk_ hr0_1
 have HC0_1 := mk_ hc0_1
 clear hr0_1 hc0_1
 have HB := mk_ (Below.refl w.heap.size w)
 have H : (if a1 = (-1) then (some (⟨#[42]⟩ : ByteArray)) else (if a1 < 0 then ((strconv_Itoa_56.f (wrap64 ((-2) - a1))).bind fun t161 => (some t161)) else (if 0 ≤ a1 then (if a1 < (l0_1.length : Int) then ((some (([(wrap64 (97 + ((rd_T68 l0_1 a1).f0))) % 256] : List Int) : List Int)).bind fun y164 => (if (strOfNums y164).size + 1 ≤ 9223372036854775807 then ((impl_caseText.f k a0_0 l0_1 ((rd_T68 l0_1 a1).f1)).bind fun t167 => (if ((strOfNums y164) ++ (⟨#[40]⟩ : ByteArray)).size + t167.size ≤ 9223372036854775807 then (if (((strOfNums y164) ++ (⟨#[40]⟩ : ByteArray)) ++ t167).size + 1 ≤ 9223372036854775807 then ((impl_caseText.f k a0_0 l0_1 ((rd_T68 l0_1 a1).f2)).bind fun t168 => (if ((((strOfNums y164) ++ (⟨#[40]⟩ : ByteArray)) ++ t167) ++ (⟨#[44]⟩ : ByteArray)).size + t168.size ≤ 9223372036854775807 then (if (((((strOfNums y164) ++ (⟨#[40]⟩ : ByteArray)) ++ t167) ++ (⟨#[44]⟩ : ByteArray)) ++ t168).size + 1 ≤ 9223372036854775807 then (some ((((((strOfNums y164) ++ (⟨#[40]⟩ : ByteArray)) ++ t167) ++ (⟨#[44]⟩ : ByteArray)) ++ t168) ++ (⟨#[41]⟩ : ByteArray))) else (none)) else (none))) else (none)) else (none))) else (none))) else (none)) else (none)))) = some r := h
 clear h
 by_cases c3 : a1 = (-1)
 ·rw [if_pos c3] at H
  have c3b0 : (a1 == (-1)) = true := beq_iff_eq.mpr c3
  have c3b1 : (a1 != (-1)) = false := bne_eq_false_iff_eq.mpr c3
  clear c3
  obtain rfl := Option.some.inj H
  go_enter Tryd.func31, Tryd.ntmps31
  go_wp2_with (first | ((with_reducible refine gate_dst (N := 2) rfl ?_); refine bx_ 2 #[.int .i64 a0_0, .slice A0_1 l0_1.length c0_1] 27 ?_; intro gb160 hg w4 hbox hb; have GW160 := mk_ (gb_ hg HB.out); have GE160 := mk_ (gb_ hg HB.out); replace HB := mk_ (below_step (below_at HB.out) hb); clear hb hbox hg))
  go_ret
  exact ⟨er_, at_ HB.out⟩
 rw [if_neg c3] at H
 have c3b0 : (a1 == (-1)) = false := beq_eq_false_iff_ne.mpr c3
 have c3b1 : (a1 != (-1)) = true := bne_iff_ne.mpr c3
 by_cases c5 : a1 < 0
 ·rw [if_pos c5] at H
  have c5b0 : decide (a1 < 0) = true := decide_eq_true c5
  clear c5
  replace H := Option.bind_eq_some_iff.mp H
  obtain ⟨t161, A60, H⟩ := H
  replace H : (some t161) = some r := H
  have A6 := mk_ A60
  clear A60
  obtain rfl := Option.some.inj H
  go_enter Tryd.func31, Tryd.ntmps31
  go_wp2_with (first | ((with_reducible refine gate_dst (N := 2) rfl ?_); refine bx_ 2 #[.int .i64 a0_0, .slice A0_1 l0_1.length c0_1] 27 ?_; intro gb160 hg w7 hbox hb; have GW160 := mk_ (gb_ hg HB.out); have GE160 := mk_ (gb_ hg HB.out); replace HB := mk_ (below_step (below_at HB.out) hb); clear hb hbox hg) | ((with_reducible refine gate_callee (f := 56) rfl ?_); refine goesL_ (some 14) rfl rfl Tryd.func56 (by kernel_rfl) rfl #[.int .i64 (wrap64 ((-2) - a1))] rfl gl_ ?_; (with_reducible refine (strconv_Itoa_56.calls (wrap64 ((-2) - a1)) t161 _ A6.out).mono ?_); rintro e w' ⟨rfl, ⟨nd, rfl⟩⟩; refine ⟨_, rfl, ?_⟩))
  go_ret
  exact ⟨er_, at_ HB.out⟩
 rw [if_neg c5] at H
 have c5b0 : decide (a1 < 0) = false := decide_eq_false c5
 clear c5
 by_cases c8 : 0 ≤ a1
 rotate_left
 ·rw [if_neg c8] at H
  exact absurd H (by simp)
 rw [if_pos c8] at H
 have c8b0 : decide (0 ≤ a1) = true := decide_eq_true c8
 clear c8
 by_cases c9 : a1 < (l0_1.length : Int)
 rotate_left
 ·rw [if_neg c9] at H
  exact absurd H (by simp)
 rw [if_pos c9] at H
 have c9b0 : decide (a1 < (l0_1.length : Int)) = true := decide_eq_true c9
 clear c9
 obtain ⟨y164, hy164⟩ : ∃ y_ : List Int, y_ = (([(wrap64 (97 + ((rd_T68 l0_1 a1).f0))) % 256] : List Int)) := ⟨_, rfl⟩
 first | (replace H := bn_ hy164 H; try dsimp only at H) | rw [← hy164] at H
 have Ny164 := mk_ hy164
 clear hy164
 by_cases c10 : (strOfNums y164).size + 1 ≤ 9223372036854775807
 rotate_left
 ·rw [if_neg c10] at H
  exact absurd H (by simp)
 rw [if_pos c10] at H
 have c10b0 := eq_true c10
 have c10b1 : decide ((strOfNums y164).size + 1 ≤ 9223372036854775807) = true := decide_eq_true c10
 try have c10b2 : (9223372036854775807 < (strOfNums y164).size + 1) = False := eq_false (Nat.not_lt.2 c10)
 replace H := Option.bind_eq_some_iff.mp H
 obtain ⟨t167, A110, H⟩ := H
 try dsimp only at H
 have A11 := mk_ A110
 clear A110
 by_cases c12 : ((strOfNums y164) ++ (⟨#[40]⟩ : ByteArray)).size + t167.size ≤ 9223372036854775807
 rotate_left
 ·rw [if_neg c12] at H
  exact absurd H (by simp)
 rw [if_pos c12] at H
 have c12b0 := eq_true c12
 have c12b1 : decide (((strOfNums y164) ++ (⟨#[40]⟩ : ByteArray)).size + t167.size ≤ 9223372036854775807) = true := decide_eq_true c12
 try have c12b2 : (9223372036854775807 < ((strOfNums y164) ++ (⟨#[40]⟩ : ByteArray)).size + t167.size) = False := eq_false (Nat.not_lt.2 c12)
 try (have c12b3 := c12b2; simp only [ByteArray.size_append', show (⟨#[40]⟩ : ByteArray).size = 1 from rfl] at c12b3)
 by_cases c13 : (((strOfNums y164) ++ (⟨#[40]⟩ : ByteArray)) ++ t167).size + 1 ≤ 9223372036854775807
 rotate_left
 ·rw [if_neg c13] at H
  exact absurd H (by simp)
 rw [if_pos c13] at H
 have c13b0 := eq_true c13
 have c13b1 : decide ((((strOfNums y164) ++ (⟨#[40]⟩ : ByteArray)) ++ t167).size + 1 ≤ 9223372036854775807) = true := decide_eq_true c13
 try have c13b2 : (9223372036854775807 < (((strOfNums y164) ++ (⟨#[40]⟩ : ByteArray)) ++ t167).size + 1) = False := eq_false (Nat.not_lt.2 c13)
 try (have c13b3 := c13b2; simp only [ByteArray.size_append', show (⟨#[40]⟩ : ByteArray).size = 1 from rfl] at c13b3)
 replace H := Option.bind_eq_some_iff.mp H
 obtain ⟨t168, A140, H⟩ := H
 try dsimp only at H
 have A14 := mk_ A140
 clear A140
 by_cases c15 : ((((strOfNums y164) ++ (⟨#[40]⟩ : ByteArray)) ++ t167) ++ (⟨#[44]⟩ : ByteArray)).size + t168.size ≤ 9223372036854775807
 rotate_left
 ·rw [if_neg c15] at H
  exact absurd H (by simp)
 rw [if_pos c15] at H
 have c15b0 := eq_true c15
 have c15b1 : decide (((((strOfNums y164) ++ (⟨#[40]⟩ : ByteArray)) ++ t167) ++ (⟨#[44]⟩ : ByteArray)).size + t168.size ≤ 9223372036854775807) = true := decide_eq_true c15
 try have c15b2 : (9223372036854775807 < ((((strOfNums y164) ++ (⟨#[40]⟩ : ByteArray)) ++ t167) ++ (⟨#[44]⟩ : ByteArray)).size + t168.size) = False := eq_false (Nat.not_lt.2 c15)
 try (have c15b3 := c15b2; simp only [ByteArray.size_append', show (⟨#[40]⟩ : ByteArray).size = 1 from rfl, show (⟨#[44]⟩ : ByteArray).size = 1 from rfl] at c15b3)
 by_cases c16 : (((((strOfNums y164) ++ (⟨#[40]⟩ : ByteArray)) ++ t167) ++ (⟨#[44]⟩ : ByteArray)) ++ t168).size + 1 ≤ 9223372036854775807
 rotate_left
 ·rw [if_neg c16] at H
  exact absurd H (by simp)
 rw [if_pos c16] at H
 have c16b0 := eq_true c16
 have c16b1 : decide ((((((strOfNums y164) ++ (⟨#[40]⟩ : ByteArray)) ++ t167) ++ (⟨#[44]⟩ : ByteArray)) ++ t168).size + 1 ≤ 9223372036854775807) = true := decide_eq_true c16
 try have c16b2 : (9223372036854775807 < (((((strOfNums y164) ++ (⟨#[40]⟩ : ByteArray)) ++ t167) ++ (⟨#[44]⟩ : ByteArray)) ++ t168).size + 1) = False := eq_false (Nat.not_lt.2 c16)
 try (have c16b3 := c16b2; simp only [ByteArray.size_append', show (⟨#[40]⟩ : ByteArray).size = 1 from rfl, show (⟨#[44]⟩ : ByteArray).size = 1 from rfl] at c16b3)
 obtain rfl := Option.some.inj H
 go_enter Tryd.func31, Tryd.ntmps31
 try go_wp2_with (first | ((with_reducible refine gate_dst (N := 2) rfl ?_); refine bx_ 2 #[.int .i64 a0_0, .slice A0_1 l0_1.length c0_1] 27 ?_; intro gb160 hg w17 hbox hb; have BK160 := mk_ (hbox); have GW160 := mk_ (gb_ hg HB.out); have GE160 := mk_ (gb_ hg HB.out); replace HB := mk_ (below_step (below_at HB.out) hb); clear hb hbox hg; have hcz18_0 := blk_cell BK160.out 0; have hcz18_1 := blk_cell BK160.out 1; have hfz18_0 := blk_frozen BK160.out 0; have hfz18_1 := blk_frozen BK160.out 1; have p162 : 0 ≤ (a1 : Int) := oa_; have q162 : a1 < (l0_1.length : Int) := oa_; obtain ⟨ad162, e162, hx162_0, hx162_1, hx162_2⟩ := at_T68 HR0_1.out a1 p162 q162; cases e162; replace hx162_0 := cel HB.out hx162_0; replace hx162_1 := cel HB.out hx162_1; replace hx162_2 := cel HB.out hx162_2; replace p162 := eq_true p162; replace q162 := eq_true q162) | ((with_reducible refine gate_dst (N := 5) rfl ?_); refine bx_ 5 #[.int .i64 0, .int .i64 0, .int .i64 0] 68 ?_; intro gb163 hg w19 hbox hb; have BK163 := mk_ (hbox); have GW163 := mk_ ((by rw [hg]; exact (below_size (at_ HB.out)) : w.heap.size ≤ gb163)); have GE163 := mk_ ((by rw [hg]; exact (below_size (at_ HB.out)) : w.heap.size ≤ gb163)); replace HB := mk_ (below_step (at_ HB.out) hb); have NB160_163 := mk_ ((by rw [hg]; exact Nat.ne_of_lt (blk_lt (g := gb160) (o := .cells #[.int .i64 a0_0, .slice (some ad162) l0_1.length c0_1] 27 (0, 0)) (bk_ BK160.out)) : gb160 ≠ gb163)); have NB163_160 := mk_ ((by rw [hg]; exact Nat.ne_of_gt (blk_lt (g := gb160) (o := .cells #[.int .i64 a0_0, .slice (some ad162) l0_1.length c0_1] 27 (0, 0)) (bk_ BK160.out)) : gb163 ≠ gb160)); replace BK160 := mk_ (blk_at BK160.out hb); clear hb hbox hg; have hnb20 := NB163_160.out; have hnc20 := NB160_163.out; have hcz21_0 := blk_cell BK163.out 0; have hcz21_1 := blk_cell BK163.out 1; have hcz21_2 := blk_cell BK163.out 2; have hfz21_0 := blk_frozen BK163.out 0; have hfz21_1 := blk_frozen BK163.out 1; have hfz21_2 := blk_frozen BK163.out 2))
 have n0_ : Aside0 ((((w19.setCell ⟨gb163, 0, none⟩ (.int .i64 ((rd_T68 l0_1 a1).f0))).setCell ⟨gb163, 1, none⟩ (.int .i64 ((rd_T68 l0_1 a1).f1))).setCell ⟨gb163, 2, none⟩ (.int .i64 ((rd_T68 l0_1 a1).f2))).heap[gb160]? = some (.cells #[.int .i64 a0_0, .slice (some ad162) l0_1.length c0_1] 27 (0, 0))) := ⟨by refine bs_ ?_; refine blk_far ?_ NB160_163.out _; refine bs_ ?_; refine blk_far ?_ NB160_163.out _; refine bs_ ?_; refine blk_far ?_ NB160_163.out _; refine bs_ ?_; exact BK160.out⟩
 have n1_ : Aside0 ((((w19.setCell ⟨gb163, 0, none⟩ (.int .i64 ((rd_T68 l0_1 a1).f0))).setCell ⟨gb163, 1, none⟩ (.int .i64 ((rd_T68 l0_1 a1).f1))).setCell ⟨gb163, 2, none⟩ (.int .i64 ((rd_T68 l0_1 a1).f2))).heap[gb163]? = some (.cells #[.int .i64 ((rd_T68 l0_1 a1).f0), .int .i64 ((rd_T68 l0_1 a1).f1), .int .i64 ((rd_T68 l0_1 a1).f2)] 68 (0, 0))) := ⟨by refine bs_ ?_; refine blk_put (cs := #[.int .i64 ((rd_T68 l0_1 a1).f0), .int .i64 ((rd_T68 l0_1 a1).f1), .int .i64 0]) ?_ 2 _ rfl; refine bs_ ?_; refine blk_put (cs := #[.int .i64 ((rd_T68 l0_1 a1).f0), .int .i64 0, .int .i64 0]) ?_ 1 _ rfl; refine bs_ ?_; refine blk_put (cs := #[.int .i64 0, .int .i64 0, .int .i64 0]) ?_ 0 _ rfl; refine bs_ ?_; exact BK163.out⟩
 have n2_ : Aside0 (Below w.heap.size w (((w19.setCell ⟨gb163, 0, none⟩ (.int .i64 ((rd_T68 l0_1 a1).f0))).setCell ⟨gb163, 1, none⟩ (.int .i64 ((rd_T68 l0_1 a1).f1))).setCell ⟨gb163, 2, none⟩ (.int .i64 ((rd_T68 l0_1 a1).f2)))) := ⟨at_ HB.out⟩
 (try clear BK160)
 (try clear BK163)
 (try clear HB)
 generalize (((w19.setCell ⟨gb163, 0, none⟩ (.int .i64 ((rd_T68 l0_1 a1).f0))).setCell ⟨gb163, 1, none⟩ (.int .i64 ((rd_T68 l0_1 a1).f1))).setCell ⟨gb163, 2, none⟩ (.int .i64 ((rd_T68 l0_1 a1).f2))) = w22 at n0_ n1_ n2_ ⊢
 have BK160 := n0_
 have BK163 := n1_
 have HB := n2_
 clear n0_ n1_ n2_
 replace BK160 := mk_ (blk_drew BK160.out)
 replace BK163 := mk_ (blk_drew BK163.out)
 replace HB := mk_ (below_drew1 HB.out)
 refine start_ (n := 20) (S := fun w' => w'.cell? ⟨gb163, 0, none⟩ = some (.int .i64 ((rd_T68 l0_1 a1).f0)) ∧ w'.cell? ⟨gb163, 1, none⟩ = some (.int .i64 ((rd_T68 l0_1 a1).f1)) ∧ w'.cell? ⟨gb163, 2, none⟩ = some (.int .i64 ((rd_T68 l0_1 a1).f2)) ∧ w'.cell? ⟨gb160, 0, none⟩ = some (.int .i64 a0_0) ∧ w'.cell? ⟨gb160, 1, none⟩ = some (.slice (some ad162) l0_1.length c0_1)) (ds := []) #[false, false, false, false, false, false, false, false, false, false, false, false, false, false, false, false, false, false, false, false] (by kernel_rfl) rfl rfl ⟨(blk_cell BK163.out 0).trans rfl, (blk_cell BK163.out 1).trans rfl, (blk_cell BK163.out 2).trans rfl, (blk_cell BK160.out 0).trans rfl, (blk_cell BK160.out 1).trans rfl⟩ (fun hHeld => ?_); refine with_tabW impl_caseText.tab6 impl_caseText.bits6 (fun HT_ HW_ => ?_)
 generalize w22.drew = w23 at BK160 BK163 HB hHeld ⊢
 refine pus_ 0 (some 20) (ao_ HT_) ?_
 refine pus_ 8 (some 28) (ao_ HT_) ?_
 refine pus_ 14 (some 34) (ao_ HT_) ?_
 refine tas_ 1 (some 21) (to_ HT_ HW_) hHeld ?_
 refine pus_ 2 (some 22) (ao_ HT_) ?_
 refine pus_ 3 (some 23) (ao_ HT_) ?_
 refine tas_ 7 (some 27) (to_ HT_ HW_) hHeld ?_
 refine tas_ 9 (some 29) (to_ HT_ HW_) hHeld ?_
 refine tas_ 13 (some 33) (to_ HT_ HW_) hHeld ?_
 refine tas_ 15 (some 35) (to_ HT_ HW_) hHeld ?_
 refine join_ (σ := Value) 3 #[true, true, true, true, true, true, true, true, true, true, true, true, true, true, true, true, true, false, false, false] (fun s_ => [(24, s_), (25, .string (strOfNums y164)), (30, .string t167), (36, .string t168), (26, .string ((strOfNums y164) ++ (⟨#[40]⟩ : ByteArray))), (31, .string (((strOfNums y164) ++ (⟨#[40]⟩ : ByteArray)) ++ t167)), (32, .string ((((strOfNums y164) ++ (⟨#[40]⟩ : ByteArray)) ++ t167) ++ (⟨#[44]⟩ : ByteArray)))]) (fun s_ w' => (w'.cell? ⟨gb163, 0, none⟩ = some (.int .i64 ((rd_T68 l0_1 a1).f0)) ∧ w'.cell? ⟨gb163, 1, none⟩ = some (.int .i64 ((rd_T68 l0_1 a1).f1)) ∧ w'.cell? ⟨gb163, 2, none⟩ = some (.int .i64 ((rd_T68 l0_1 a1).f2)) ∧ w'.cell? ⟨gb160, 0, none⟩ = some (.int .i64 a0_0) ∧ w'.cell? ⟨gb160, 1, none⟩ = some (.slice (some ad162) l0_1.length c0_1)) ∧ (Kd.R (Kd.int .u8) 5 w' w.heap.size (fun _ => True) s_ y164) ∧ (w'.heap[gb160]? = some (.cells #[.int .i64 a0_0, .slice (some ad162) l0_1.length c0_1] 27 (0, 0))) ∧ (w'.heap[gb163]? = some (.cells #[.int .i64 ((rd_T68 l0_1 a1).f0), .int .i64 ((rd_T68 l0_1 a1).f1), .int .i64 ((rd_T68 l0_1 a1).f2)] 68 (0, 0))) ∧ (Below w.heap.size w w')) ?_ ?_
 rotate_left
 ·intro hJ4_5_10_16
  refine join_ (σ := Value) 4 #[true, true, true, true, true, true, true, true, true, true, true, true, true, true, true, true, false, false, false, false] (fun s_ => [(24, s_), (25, .string (strOfNums y164)), (30, .string t167), (26, .string ((strOfNums y164) ++ (⟨#[40]⟩ : ByteArray))), (31, .string (((strOfNums y164) ++ (⟨#[40]⟩ : ByteArray)) ++ t167)), (32, .string ((((strOfNums y164) ++ (⟨#[40]⟩ : ByteArray)) ++ t167) ++ (⟨#[44]⟩ : ByteArray)))]) (fun s_ w' => (w'.cell? ⟨gb163, 0, none⟩ = some (.int .i64 ((rd_T68 l0_1 a1).f0)) ∧ w'.cell? ⟨gb163, 1, none⟩ = some (.int .i64 ((rd_T68 l0_1 a1).f1)) ∧ w'.cell? ⟨gb163, 2, none⟩ = some (.int .i64 ((rd_T68 l0_1 a1).f2)) ∧ w'.cell? ⟨gb160, 0, none⟩ = some (.int .i64 a0_0) ∧ w'.cell? ⟨gb160, 1, none⟩ = some (.slice (some ad162) l0_1.length c0_1)) ∧ (Kd.R (Kd.int .u8) 5 w' w.heap.size (fun _ => True) s_ y164) ∧ (w'.heap[gb160]? = some (.cells #[.int .i64 a0_0, .slice (some ad162) l0_1.length c0_1] 27 (0, 0))) ∧ (w'.heap[gb163]? = some (.cells #[.int .i64 ((rd_T68 l0_1 a1).f0), .int .i64 ((rd_T68 l0_1 a1).f1), .int .i64 ((rd_T68 l0_1 a1).f2)] 68 (0, 0))) ∧ (Below w.heap.size w w')) ?_ ?_
  rotate_left
  rotate_left
  ·skip
   rintro v165 w28 ⟨hS_, h0_, h1_, h2_, h3_⟩
   have n0_ : Aside0 (Kd.R (Kd.int .u8) 5 w28 w.heap.size (fun _ => True) v165 y164) := ⟨h0_⟩
   have n1_ : Aside0 (w28.heap[gb160]? = some (.cells #[.int .i64 a0_0, .slice (some ad162) l0_1.length c0_1] 27 (0, 0))) := ⟨h1_⟩
   have n2_ : Aside0 (w28.heap[gb163]? = some (.cells #[.int .i64 ((rd_T68 l0_1 a1).f0), .int .i64 ((rd_T68 l0_1 a1).f1), .int .i64 ((rd_T68 l0_1 a1).f2)] 68 (0, 0))) := ⟨h2_⟩
   have n3_ : Aside0 (Below w.heap.size w w28) := ⟨h3_⟩
   clear BK160
   clear BK163
   clear HB
   clear h0_ h1_ h2_ h3_
   have HO166 := n0_
   have BK160 := n1_
   have BK163 := n2_
   have HB := n3_
   clear n0_ n1_ n2_ n3_
   have hHeld : w28.cell? ⟨gb163, 0, none⟩ = some (.int .i64 ((rd_T68 l0_1 a1).f0)) ∧ w28.cell? ⟨gb163, 1, none⟩ = some (.int .i64 ((rd_T68 l0_1 a1).f1)) ∧ w28.cell? ⟨gb163, 2, none⟩ = some (.int .i64 ((rd_T68 l0_1 a1).f2)) ∧ w28.cell? ⟨gb160, 0, none⟩ = some (.int .i64 a0_0) ∧ w28.cell? ⟨gb160, 1, none⟩ = some (.slice (some ad162) l0_1.length c0_1) := hS_
   refine norm_ (a' := ?_) ?_ ?_
   rotate_left
   ·simp only [putAll, Act.put, z0_, z1_, z2_]
    rfl
   refine ons_ 16 (some 36) (oo_ HT_) (fun K hK => ?_)
   refine goes_ Tryd.func31 (by kernel_rfl) rfl #[.agg #[.int .i64 a0_0, .slice (some ad162) l0_1.length c0_1], .int .i64 ((rd_T68 l0_1 a1).f2)] (by rfl) rfl rfl gl_ ?_
   with_reducible refine (ih k (by omega) a0_0 _ _ l0_1 ((rd_T68 l0_1 a1).f2) t168 _ ?side1 ?side2 A14.out).mono ?_
   (case side1 => exact Kd.C_below (Kd.C_below HR0_1.out HB.out) lt_)
   (case side2 => exact HC0_1.out)
   rintro e w29 ⟨rfl, hb⟩
   refine ⟨_, rfl, ?_⟩
   replace HO166 := mk_ (Kd.R_below (Kd.R_below HO166.out lt_) hb)
   replace BK160 := mk_ (blk_at BK160.out hb)
   replace BK163 := mk_ (blk_at BK163.out hb)
   replace HB := mk_ (below_step (at_ HB.out) hb)
   (try clear hb)
   (try clear hb2)
   (try clear hk)
   (try clear hi)
   refine hK.out _ _ ⟨(blk_cell BK163.out 0).trans rfl, (blk_cell BK163.out 1).trans rfl, (blk_cell BK163.out 2).trans rfl, (blk_cell BK160.out 0).trans rfl, (blk_cell BK160.out 1).trans rfl⟩ (fun hHeld => ?_)
   clear hK K
   refine nor_ (some 36) ?_
   exact norm_ (by first | (simp only [putAll, Act.put, z0_, z1_, z2_]; done) | (simp only [putAll, Act.put, z0_, z1_, z2_]; rfl)) (hJ4_5_10_16 (v165) _ ⟨hHeld, (Kd.R_below HO166.out lt_), (bk_ BK160.out), (bk_ BK163.out), (at_ HB.out)⟩)
  intro hJ4_5_10
  refine join_ (σ := Value) 7 #[true, true, true, true, true, false, false, true, true, true, true, false, false, true, true, true, true, false, false, false] (fun s_ => [(24, s_), (30, .string t167), (36, .string t168)]) (fun s_ w' => (w'.cell? ⟨gb163, 0, none⟩ = some (.int .i64 ((rd_T68 l0_1 a1).f0)) ∧ w'.cell? ⟨gb163, 1, none⟩ = some (.int .i64 ((rd_T68 l0_1 a1).f1)) ∧ w'.cell? ⟨gb163, 2, none⟩ = some (.int .i64 ((rd_T68 l0_1 a1).f2)) ∧ w'.cell? ⟨gb160, 0, none⟩ = some (.int .i64 a0_0) ∧ w'.cell? ⟨gb160, 1, none⟩ = some (.slice (some ad162) l0_1.length c0_1)) ∧ (Kd.R (Kd.int .u8) 5 w' w.heap.size (fun _ => True) s_ y164) ∧ (w'.heap[gb160]? = some (.cells #[.int .i64 a0_0, .slice (some ad162) l0_1.length c0_1] 27 (0, 0))) ∧ (w'.heap[gb163]? = some (.cells #[.int .i64 ((rd_T68 l0_1 a1).f0), .int .i64 ((rd_T68 l0_1 a1).f1), .int .i64 ((rd_T68 l0_1 a1).f2)] 68 (0, 0))) ∧ (Below w.heap.size w w')) ?_ ?_
  rotate_left
  rotate_left
  ·skip
   rintro v165 w28 ⟨hS_, h0_, h1_, h2_, h3_⟩
   have n0_ : Aside0 (Kd.R (Kd.int .u8) 5 w28 w.heap.size (fun _ => True) v165 y164) := ⟨h0_⟩
   have n1_ : Aside0 (w28.heap[gb160]? = some (.cells #[.int .i64 a0_0, .slice (some ad162) l0_1.length c0_1] 27 (0, 0))) := ⟨h1_⟩
   have n2_ : Aside0 (w28.heap[gb163]? = some (.cells #[.int .i64 ((rd_T68 l0_1 a1).f0), .int .i64 ((rd_T68 l0_1 a1).f1), .int .i64 ((rd_T68 l0_1 a1).f2)] 68 (0, 0))) := ⟨h2_⟩
   have n3_ : Aside0 (Below w.heap.size w w28) := ⟨h3_⟩
   clear BK160
   clear BK163
   clear HB
   clear h0_ h1_ h2_ h3_
   have HO166 := n0_
   have BK160 := n1_
   have BK163 := n2_
   have HB := n3_
   clear n0_ n1_ n2_ n3_
   have hHeld : w28.cell? ⟨gb163, 0, none⟩ = some (.int .i64 ((rd_T68 l0_1 a1).f0)) ∧ w28.cell? ⟨gb163, 1, none⟩ = some (.int .i64 ((rd_T68 l0_1 a1).f1)) ∧ w28.cell? ⟨gb163, 2, none⟩ = some (.int .i64 ((rd_T68 l0_1 a1).f2)) ∧ w28.cell? ⟨gb160, 0, none⟩ = some (.int .i64 a0_0) ∧ w28.cell? ⟨gb160, 1, none⟩ = some (.slice (some ad162) l0_1.length c0_1) := hS_
   refine norm_ (a' := ?_) ?_ ?_
   rotate_left
   ·simp only [putAll, Act.put, z0_, z1_, z2_]
    rfl
   refine ons_ 5 (some 25) (oo_ HT_) (fun K hK => ?_)
   have hcv29 := own_string (P := Tryd.prog) Tryd.underlying22 Tryd.underlying5 Tryd.underlying9 (Kd.own_of_R HO166.out)
   refine value_ (w1 := ?_) (v := ?_) (by rfl) rfl ?_ ?_
   rotate_left 2
   ·go_simp
    constructor
    ·rfl
    rfl
   clear hcv29
   refine hK.out _ _ ⟨(blk_cell BK163.out 0).trans rfl, (blk_cell BK163.out 1).trans rfl, (blk_cell BK163.out 2).trans rfl, (blk_cell BK160.out 0).trans rfl, (blk_cell BK160.out 1).trans rfl⟩ (fun hHeld => ?_)
   clear hK K
   refine nor_ (some 25) ?_
   refine pus_ 6 (some 26) (ao_ HT_) ?_
   refine pus_ 11 (some 31) (ao_ HT_) ?_
   refine pus_ 12 (some 32) (ao_ HT_) ?_
   exact norm_ (by first | (simp only [putAll, Act.put, z0_, z1_, z2_]; done) | (simp only [putAll, Act.put, z0_, z1_, z2_]; rfl)) (hJ4_5_10_16 (v165) _ ⟨hHeld, (Kd.R_below HO166.out lt_), (bk_ BK160.out), (bk_ BK163.out), (at_ HB.out)⟩)
  intro hJ4_10_16
  refine join_ (σ := Value) 7 #[true, true, true, true, true, true, true, true, true, true, false, false, false, true, true, true, false, false, false, false] (fun s_ => [(24, s_), (25, .string (strOfNums y164)), (26, .string ((strOfNums y164) ++ (⟨#[40]⟩ : ByteArray)))]) (fun s_ w' => (w'.cell? ⟨gb163, 0, none⟩ = some (.int .i64 ((rd_T68 l0_1 a1).f0)) ∧ w'.cell? ⟨gb163, 1, none⟩ = some (.int .i64 ((rd_T68 l0_1 a1).f1)) ∧ w'.cell? ⟨gb163, 2, none⟩ = some (.int .i64 ((rd_T68 l0_1 a1).f2)) ∧ w'.cell? ⟨gb160, 0, none⟩ = some (.int .i64 a0_0) ∧ w'.cell? ⟨gb160, 1, none⟩ = some (.slice (some ad162) l0_1.length c0_1)) ∧ (Kd.R (Kd.int .u8) 5 w' w.heap.size (fun _ => True) s_ y164) ∧ (w'.heap[gb160]? = some (.cells #[.int .i64 a0_0, .slice (some ad162) l0_1.length c0_1] 27 (0, 0))) ∧ (w'.heap[gb163]? = some (.cells #[.int .i64 ((rd_T68 l0_1 a1).f0), .int .i64 ((rd_T68 l0_1 a1).f1), .int .i64 ((rd_T68 l0_1 a1).f2)] 68 (0, 0))) ∧ (Below w.heap.size w w')) ?_ ?_
  rotate_left
  rotate_left
  ·skip
   rintro v165 w27 ⟨hS_, h0_, h1_, h2_, h3_⟩
   have n0_ : Aside0 (Kd.R (Kd.int .u8) 5 w27 w.heap.size (fun _ => True) v165 y164) := ⟨h0_⟩
   have n1_ : Aside0 (w27.heap[gb160]? = some (.cells #[.int .i64 a0_0, .slice (some ad162) l0_1.length c0_1] 27 (0, 0))) := ⟨h1_⟩
   have n2_ : Aside0 (w27.heap[gb163]? = some (.cells #[.int .i64 ((rd_T68 l0_1 a1).f0), .int .i64 ((rd_T68 l0_1 a1).f1), .int .i64 ((rd_T68 l0_1 a1).f2)] 68 (0, 0))) := ⟨h2_⟩
   have n3_ : Aside0 (Below w.heap.size w w27) := ⟨h3_⟩
   clear BK160
   clear BK163
   clear HB
   clear h0_ h1_ h2_ h3_
   have HO166 := n0_
   have BK160 := n1_
   have BK163 := n2_
   have HB := n3_
   clear n0_ n1_ n2_ n3_
   have hHeld : w27.cell? ⟨gb163, 0, none⟩ = some (.int .i64 ((rd_T68 l0_1 a1).f0)) ∧ w27.cell? ⟨gb163, 1, none⟩ = some (.int .i64 ((rd_T68 l0_1 a1).f1)) ∧ w27.cell? ⟨gb163, 2, none⟩ = some (.int .i64 ((rd_T68 l0_1 a1).f2)) ∧ w27.cell? ⟨gb160, 0, none⟩ = some (.int .i64 a0_0) ∧ w27.cell? ⟨gb160, 1, none⟩ = some (.slice (some ad162) l0_1.length c0_1) := hS_
   refine norm_ (a' := ?_) ?_ ?_
   rotate_left
   ·simp only [putAll, Act.put, z0_, z1_, z2_]
    rfl
   refine ons_ 10 (some 30) (oo_ HT_) (fun K hK => ?_)
   refine goes_ Tryd.func31 (by kernel_rfl) rfl #[.agg #[.int .i64 a0_0, .slice (some ad162) l0_1.length c0_1], .int .i64 ((rd_T68 l0_1 a1).f1)] (by rfl) rfl rfl gl_ ?_
   with_reducible refine (ih k (by omega) a0_0 _ _ l0_1 ((rd_T68 l0_1 a1).f1) t167 _ ?side1 ?side2 A11.out).mono ?_
   (case side1 => exact Kd.C_below (Kd.C_below HR0_1.out HB.out) lt_)
   (case side2 => exact HC0_1.out)
   rintro e w28 ⟨rfl, hb⟩
   refine ⟨_, rfl, ?_⟩
   replace HO166 := mk_ (Kd.R_below (Kd.R_below HO166.out lt_) hb)
   replace BK160 := mk_ (blk_at BK160.out hb)
   replace BK163 := mk_ (blk_at BK163.out hb)
   replace HB := mk_ (below_step (at_ HB.out) hb)
   (try clear hb)
   (try clear hb2)
   (try clear hk)
   (try clear hi)
   refine hK.out _ _ ⟨(blk_cell BK163.out 0).trans rfl, (blk_cell BK163.out 1).trans rfl, (blk_cell BK163.out 2).trans rfl, (blk_cell BK160.out 0).trans rfl, (blk_cell BK160.out 1).trans rfl⟩ (fun hHeld => ?_)
   clear hK K
   refine nor_ (some 30) ?_
   refine pus_ 11 (some 31) (ao_ HT_) ?_
   refine pus_ 12 (some 32) (ao_ HT_) ?_
   exact norm_ (by first | (simp only [putAll, Act.put, z0_, z1_, z2_]; done) | (simp only [putAll, Act.put, z0_, z1_, z2_]; rfl)) (hJ4_5_10 (v165) _ ⟨hHeld, (Kd.R_below HO166.out lt_), (bk_ BK160.out), (bk_ BK163.out), (at_ HB.out)⟩)
  intro hJ4_5
  refine join_ (σ := Value) 8 #[true, true, true, true, true, false, false, true, true, true, true, false, false, true, true, true, false, false, false, false] (fun s_ => [(24, s_), (30, .string t167)]) (fun s_ w' => (w'.cell? ⟨gb163, 0, none⟩ = some (.int .i64 ((rd_T68 l0_1 a1).f0)) ∧ w'.cell? ⟨gb163, 1, none⟩ = some (.int .i64 ((rd_T68 l0_1 a1).f1)) ∧ w'.cell? ⟨gb163, 2, none⟩ = some (.int .i64 ((rd_T68 l0_1 a1).f2)) ∧ w'.cell? ⟨gb160, 0, none⟩ = some (.int .i64 a0_0) ∧ w'.cell? ⟨gb160, 1, none⟩ = some (.slice (some ad162) l0_1.length c0_1)) ∧ (Kd.R (Kd.int .u8) 5 w' w.heap.size (fun _ => True) s_ y164) ∧ (w'.heap[gb160]? = some (.cells #[.int .i64 a0_0, .slice (some ad162) l0_1.length c0_1] 27 (0, 0))) ∧ (w'.heap[gb163]? = some (.cells #[.int .i64 ((rd_T68 l0_1 a1).f0), .int .i64 ((rd_T68 l0_1 a1).f1), .int .i64 ((rd_T68 l0_1 a1).f2)] 68 (0, 0))) ∧ (Below w.heap.size w w')) ?_ ?_
  rotate_left
  rotate_left
  ·skip
   rintro v165 w27 ⟨hS_, h0_, h1_, h2_, h3_⟩
   have n0_ : Aside0 (Kd.R (Kd.int .u8) 5 w27 w.heap.size (fun _ => True) v165 y164) := ⟨h0_⟩
   have n1_ : Aside0 (w27.heap[gb160]? = some (.cells #[.int .i64 a0_0, .slice (some ad162) l0_1.length c0_1] 27 (0, 0))) := ⟨h1_⟩
   have n2_ : Aside0 (w27.heap[gb163]? = some (.cells #[.int .i64 ((rd_T68 l0_1 a1).f0), .int .i64 ((rd_T68 l0_1 a1).f1), .int .i64 ((rd_T68 l0_1 a1).f2)] 68 (0, 0))) := ⟨h2_⟩
   have n3_ : Aside0 (Below w.heap.size w w27) := ⟨h3_⟩
   clear BK160
   clear BK163
   clear HB
   clear h0_ h1_ h2_ h3_
   have HO166 := n0_
   have BK160 := n1_
   have BK163 := n2_
   have HB := n3_
   clear n0_ n1_ n2_ n3_
   have hHeld : w27.cell? ⟨gb163, 0, none⟩ = some (.int .i64 ((rd_T68 l0_1 a1).f0)) ∧ w27.cell? ⟨gb163, 1, none⟩ = some (.int .i64 ((rd_T68 l0_1 a1).f1)) ∧ w27.cell? ⟨gb163, 2, none⟩ = some (.int .i64 ((rd_T68 l0_1 a1).f2)) ∧ w27.cell? ⟨gb160, 0, none⟩ = some (.int .i64 a0_0) ∧ w27.cell? ⟨gb160, 1, none⟩ = some (.slice (some ad162) l0_1.length c0_1) := hS_
   refine norm_ (a' := ?_) ?_ ?_
   rotate_left
   ·simp only [putAll, Act.put, z0_, z1_, z2_]
    rfl
   refine two_ (i := 5) (j := 16) (Ni := some 25) (Nj := some 36) #[true, true, true, true, true, true, false, true, true, true, true, false, false, true, true, true, false, false, false, false] #[true, true, true, true, true, false, false, true, true, true, true, false, false, true, true, true, true, false, false, false] rfl rfl rfl rfl (two_of HT_.out (by kernel_rfl)) (by decide) (by decide) (fun K hK => ?_) (fun K hK => ?_)
   rotate_left
   ·skip
    refine goes_ Tryd.func31 (by kernel_rfl) rfl #[.agg #[.int .i64 a0_0, .slice (some ad162) l0_1.length c0_1], .int .i64 ((rd_T68 l0_1 a1).f2)] (by rfl) rfl rfl gl_ ?_
    with_reducible refine (ih k (by omega) a0_0 _ _ l0_1 ((rd_T68 l0_1 a1).f2) t168 _ ?side1 ?side2 A14.out).mono ?_
    (case side1 => exact Kd.C_below (Kd.C_below HR0_1.out HB.out) lt_)
    (case side2 => exact HC0_1.out)
    rintro e w28 ⟨rfl, hb⟩
    refine ⟨_, rfl, ?_⟩
    replace HO166 := mk_ (Kd.R_below (Kd.R_below HO166.out lt_) hb)
    replace BK160 := mk_ (blk_at BK160.out hb)
    replace BK163 := mk_ (blk_at BK163.out hb)
    replace HB := mk_ (below_step (at_ HB.out) hb)
    (try clear hb)
    (try clear hb2)
    (try clear hk)
    (try clear hi)
    refine hK.out _ _ ⟨(blk_cell BK163.out 0).trans rfl, (blk_cell BK163.out 1).trans rfl, (blk_cell BK163.out 2).trans rfl, (blk_cell BK160.out 0).trans rfl, (blk_cell BK160.out 1).trans rfl⟩ (fun hHeld => ?_)
    clear hK K
    refine nor_ (some 36) ?_
    exact norm_ (by first | (simp only [putAll, Act.put, z0_, z1_, z2_]; done) | (simp only [putAll, Act.put, z0_, z1_, z2_]; rfl)) (hJ4_10_16 (v165) _ ⟨hHeld, (Kd.R_below HO166.out lt_), (bk_ BK160.out), (bk_ BK163.out), (at_ HB.out)⟩)
   skip
   have hcv28 := own_string (P := Tryd.prog) Tryd.underlying22 Tryd.underlying5 Tryd.underlying9 (Kd.own_of_R HO166.out)
   refine value_ (w1 := ?_) (v := ?_) (by rfl) rfl ?_ ?_
   rotate_left 2
   ·go_simp
    constructor
    ·rfl
    rfl
   clear hcv28
   refine hK.out _ _ ⟨(blk_cell BK163.out 0).trans rfl, (blk_cell BK163.out 1).trans rfl, (blk_cell BK163.out 2).trans rfl, (blk_cell BK160.out 0).trans rfl, (blk_cell BK160.out 1).trans rfl⟩ (fun hHeld => ?_)
   clear hK K
   refine nor_ (some 25) ?_
   refine pus_ 6 (some 26) (ao_ HT_) ?_
   refine pus_ 11 (some 31) (ao_ HT_) ?_
   refine pus_ 12 (some 32) (ao_ HT_) ?_
   exact norm_ (by first | (simp only [putAll, Act.put, z0_, z1_, z2_]; done) | (simp only [putAll, Act.put, z0_, z1_, z2_]; rfl)) (hJ4_5_10 (v165) _ ⟨hHeld, (Kd.R_below HO166.out lt_), (bk_ BK160.out), (bk_ BK163.out), (at_ HB.out)⟩)
  intro hJ4_10
  refine join_ (σ := Unit) 8 #[true, true, true, true, false, false, false, true, true, true, true, false, false, true, true, true, true, false, false, false] (fun s_ => [(30, .string t167), (36, .string t168)]) (fun s_ w' => (w'.cell? ⟨gb163, 0, none⟩ = some (.int .i64 ((rd_T68 l0_1 a1).f0)) ∧ w'.cell? ⟨gb163, 1, none⟩ = some (.int .i64 ((rd_T68 l0_1 a1).f1)) ∧ w'.cell? ⟨gb163, 2, none⟩ = some (.int .i64 ((rd_T68 l0_1 a1).f2)) ∧ w'.cell? ⟨gb160, 0, none⟩ = some (.int .i64 a0_0) ∧ w'.cell? ⟨gb160, 1, none⟩ = some (.slice (some ad162) l0_1.length c0_1)) ∧ (w'.heap[gb160]? = some (.cells #[.int .i64 a0_0, .slice (some ad162) l0_1.length c0_1] 27 (0, 0))) ∧ (w'.heap[gb163]? = some (.cells #[.int .i64 ((rd_T68 l0_1 a1).f0), .int .i64 ((rd_T68 l0_1 a1).f1), .int .i64 ((rd_T68 l0_1 a1).f2)] 68 (0, 0))) ∧ (Below w.heap.size w w')) ?_ ?_
  rotate_left
  rotate_left
  ·skip
   rintro _ w26 ⟨hS_, h0_, h1_, h2_⟩
   have n0_ : Aside0 (w26.heap[gb160]? = some (.cells #[.int .i64 a0_0, .slice (some ad162) l0_1.length c0_1] 27 (0, 0))) := ⟨h0_⟩
   have n1_ : Aside0 (w26.heap[gb163]? = some (.cells #[.int .i64 ((rd_T68 l0_1 a1).f0), .int .i64 ((rd_T68 l0_1 a1).f1), .int .i64 ((rd_T68 l0_1 a1).f2)] 68 (0, 0))) := ⟨h1_⟩
   have n2_ : Aside0 (Below w.heap.size w w26) := ⟨h2_⟩
   clear BK160
   clear BK163
   clear HB
   clear h0_ h1_ h2_
   have BK160 := n0_
   have BK163 := n1_
   have HB := n2_
   clear n0_ n1_ n2_
   have hHeld : w26.cell? ⟨gb163, 0, none⟩ = some (.int .i64 ((rd_T68 l0_1 a1).f0)) ∧ w26.cell? ⟨gb163, 1, none⟩ = some (.int .i64 ((rd_T68 l0_1 a1).f1)) ∧ w26.cell? ⟨gb163, 2, none⟩ = some (.int .i64 ((rd_T68 l0_1 a1).f2)) ∧ w26.cell? ⟨gb160, 0, none⟩ = some (.int .i64 a0_0) ∧ w26.cell? ⟨gb160, 1, none⟩ = some (.slice (some ad162) l0_1.length c0_1) := hS_
   refine norm_ (a' := ?_) ?_ ?_
   rotate_left
   ·simp only [putAll, Act.put, z0_, z1_, z2_]
    rfl
   refine ons_ 4 (some 24) (oo_ HT_) (fun K hK => ?_)
   refine Kd.R_lit_step (Kd.int .u8) _ 5 ?hg (N := 24) ?hd (xs := ([(wrap64 (97 + ((rd_T68 l0_1 a1).f0))) % 256] : List Int)) (inner := [.int .u8 ((wrap64 (97 + ((rd_T68 l0_1 a1).f0))) % 256)]) (ok := fun _ => True) (okp := fun _ => True) ?hr ?hp (fun _ hk => hk) trivial (Below.refl _ _) (Nat.le_refl _) (by simp) ?_; (case hd => rfl); (case hg => rfl); (case hr => first | (go_simp; done) | (go_simp; rfl)); (case hp => exact (Reps.one (show Kd.M (Kd.int .u8) _ _ _ ((wrap64 (97 + ((rd_T68 l0_1 a1).f0))) % 256) [.int .u8 ((wrap64 (97 + ((rd_T68 l0_1 a1).f0))) % 256)] from rfl) (Reps.none _ _)))
   intro v165 w27 ho28 hb hg_ hnew_
   clear hg_ hnew_
   (first | rw [← Ny164.out] at ho28 | (simp only [Int.reduceToNat] at ho28; rw [← Ny164.out] at ho28))
   have HO166 := mk_ (Kd.R_lower ho28 (below_size (at_ HB.out)))
   replace BK160 := mk_ (blk_at BK160.out hb)
   replace BK163 := mk_ (blk_at BK163.out hb)
   replace HB := mk_ (below_step (at_ HB.out) hb)
   clear hb ho28
   refine hK.out _ _ ⟨(blk_cell BK163.out 0).trans rfl, (blk_cell BK163.out 1).trans rfl, (blk_cell BK163.out 2).trans rfl, (blk_cell BK160.out 0).trans rfl, (blk_cell BK160.out 1).trans rfl⟩ (fun hHeld => ?_)
   clear hK K
   refine nor_ (some 24) ?_
   exact norm_ (by first | (simp only [putAll, Act.put, z0_, z1_, z2_]; done) | (simp only [putAll, Act.put, z0_, z1_, z2_]; rfl)) (hJ4_10_16 (v165) _ ⟨hHeld, (Kd.R_below HO166.out lt_), (bk_ BK160.out), (bk_ BK163.out), (at_ HB.out)⟩)
  intro hJ10_16
  refine join_ (σ := Value) 9 #[true, true, true, true, true, false, false, true, true, true, false, false, false, true, true, true, false, false, false, false] (fun s_ => [(24, s_)]) (fun s_ w' => (w'.cell? ⟨gb163, 0, none⟩ = some (.int .i64 ((rd_T68 l0_1 a1).f0)) ∧ w'.cell? ⟨gb163, 1, none⟩ = some (.int .i64 ((rd_T68 l0_1 a1).f1)) ∧ w'.cell? ⟨gb163, 2, none⟩ = some (.int .i64 ((rd_T68 l0_1 a1).f2)) ∧ w'.cell? ⟨gb160, 0, none⟩ = some (.int .i64 a0_0) ∧ w'.cell? ⟨gb160, 1, none⟩ = some (.slice (some ad162) l0_1.length c0_1)) ∧ (Kd.R (Kd.int .u8) 5 w' w.heap.size (fun _ => True) s_ y164) ∧ (w'.heap[gb160]? = some (.cells #[.int .i64 a0_0, .slice (some ad162) l0_1.length c0_1] 27 (0, 0))) ∧ (w'.heap[gb163]? = some (.cells #[.int .i64 ((rd_T68 l0_1 a1).f0), .int .i64 ((rd_T68 l0_1 a1).f1), .int .i64 ((rd_T68 l0_1 a1).f2)] 68 (0, 0))) ∧ (Below w.heap.size w w')) ?_ ?_
  rotate_left
  rotate_left
  ·skip
   rintro v165 w26 ⟨hS_, h0_, h1_, h2_, h3_⟩
   have n0_ : Aside0 (Kd.R (Kd.int .u8) 5 w26 w.heap.size (fun _ => True) v165 y164) := ⟨h0_⟩
   have n1_ : Aside0 (w26.heap[gb160]? = some (.cells #[.int .i64 a0_0, .slice (some ad162) l0_1.length c0_1] 27 (0, 0))) := ⟨h1_⟩
   have n2_ : Aside0 (w26.heap[gb163]? = some (.cells #[.int .i64 ((rd_T68 l0_1 a1).f0), .int .i64 ((rd_T68 l0_1 a1).f1), .int .i64 ((rd_T68 l0_1 a1).f2)] 68 (0, 0))) := ⟨h2_⟩
   have n3_ : Aside0 (Below w.heap.size w w26) := ⟨h3_⟩
   clear BK160
   clear BK163
   clear HB
   clear h0_ h1_ h2_ h3_
   have HO166 := n0_
   have BK160 := n1_
   have BK163 := n2_
   have HB := n3_
   clear n0_ n1_ n2_ n3_
   have hHeld : w26.cell? ⟨gb163, 0, none⟩ = some (.int .i64 ((rd_T68 l0_1 a1).f0)) ∧ w26.cell? ⟨gb163, 1, none⟩ = some (.int .i64 ((rd_T68 l0_1 a1).f1)) ∧ w26.cell? ⟨gb163, 2, none⟩ = some (.int .i64 ((rd_T68 l0_1 a1).f2)) ∧ w26.cell? ⟨gb160, 0, none⟩ = some (.int .i64 a0_0) ∧ w26.cell? ⟨gb160, 1, none⟩ = some (.slice (some ad162) l0_1.length c0_1) := hS_
   refine norm_ (a' := ?_) ?_ ?_
   rotate_left
   ·simp only [putAll, Act.put, z0_, z1_, z2_]
    rfl
   refine two_ (i := 5) (j := 10) (Ni := some 25) (Nj := some 30) #[true, true, true, true, true, true, false, true, true, true, false, false, false, true, true, true, false, false, false, false] #[true, true, true, true, true, false, false, true, true, true, true, false, false, true, true, true, false, false, false, false] rfl rfl rfl rfl (two_of HT_.out (by kernel_rfl)) (by decide) (by decide) (fun K hK => ?_) (fun K hK => ?_)
   ·skip
    have hcv27 := own_string (P := Tryd.prog) Tryd.underlying22 Tryd.underlying5 Tryd.underlying9 (Kd.own_of_R HO166.out)
    refine value_ (w1 := ?_) (v := ?_) (by rfl) rfl ?_ ?_
    rotate_left 2
    ·go_simp
     constructor
     ·rfl
     rfl
    clear hcv27
    refine hK.out _ _ ⟨(blk_cell BK163.out 0).trans rfl, (blk_cell BK163.out 1).trans rfl, (blk_cell BK163.out 2).trans rfl, (blk_cell BK160.out 0).trans rfl, (blk_cell BK160.out 1).trans rfl⟩ (fun hHeld => ?_)
    clear hK K
    refine nor_ (some 25) ?_
    refine pus_ 6 (some 26) (ao_ HT_) ?_
    exact norm_ (by first | (simp only [putAll, Act.put, z0_, z1_, z2_]; done) | (simp only [putAll, Act.put, z0_, z1_, z2_]; rfl)) (hJ4_5 (v165) _ ⟨hHeld, (Kd.R_below HO166.out lt_), (bk_ BK160.out), (bk_ BK163.out), (at_ HB.out)⟩)
   skip
   refine goes_ Tryd.func31 (by kernel_rfl) rfl #[.agg #[.int .i64 a0_0, .slice (some ad162) l0_1.length c0_1], .int .i64 ((rd_T68 l0_1 a1).f1)] (by rfl) rfl rfl gl_ ?_
   with_reducible refine (ih k (by omega) a0_0 _ _ l0_1 ((rd_T68 l0_1 a1).f1) t167 _ ?side1 ?side2 A11.out).mono ?_
   (case side1 => exact Kd.C_below (Kd.C_below HR0_1.out HB.out) lt_)
   (case side2 => exact HC0_1.out)
   rintro e w27 ⟨rfl, hb⟩
   refine ⟨_, rfl, ?_⟩
   replace HO166 := mk_ (Kd.R_below (Kd.R_below HO166.out lt_) hb)
   replace BK160 := mk_ (blk_at BK160.out hb)
   replace BK163 := mk_ (blk_at BK163.out hb)
   replace HB := mk_ (below_step (at_ HB.out) hb)
   (try clear hb)
   (try clear hb2)
   (try clear hk)
   (try clear hi)
   refine hK.out _ _ ⟨(blk_cell BK163.out 0).trans rfl, (blk_cell BK163.out 1).trans rfl, (blk_cell BK163.out 2).trans rfl, (blk_cell BK160.out 0).trans rfl, (blk_cell BK160.out 1).trans rfl⟩ (fun hHeld => ?_)
   clear hK K
   refine nor_ (some 30) ?_
   exact norm_ (by first | (simp only [putAll, Act.put, z0_, z1_, z2_]; done) | (simp only [putAll, Act.put, z0_, z1_, z2_]; rfl)) (hJ4_10 (v165) _ ⟨hHeld, (Kd.R_below HO166.out lt_), (bk_ BK160.out), (bk_ BK163.out), (at_ HB.out)⟩)
  intro hJ4
  refine join_ (σ := Unit) 9 #[true, true, true, true, false, false, false, true, true, true, true, false, false, true, true, true, false, false, false, false] (fun s_ => [(30, .string t167)]) (fun s_ w' => (w'.cell? ⟨gb163, 0, none⟩ = some (.int .i64 ((rd_T68 l0_1 a1).f0)) ∧ w'.cell? ⟨gb163, 1, none⟩ = some (.int .i64 ((rd_T68 l0_1 a1).f1)) ∧ w'.cell? ⟨gb163, 2, none⟩ = some (.int .i64 ((rd_T68 l0_1 a1).f2)) ∧ w'.cell? ⟨gb160, 0, none⟩ = some (.int .i64 a0_0) ∧ w'.cell? ⟨gb160, 1, none⟩ = some (.slice (some ad162) l0_1.length c0_1)) ∧ (w'.heap[gb160]? = some (.cells #[.int .i64 a0_0, .slice (some ad162) l0_1.length c0_1] 27 (0, 0))) ∧ (w'.heap[gb163]? = some (.cells #[.int .i64 ((rd_T68 l0_1 a1).f0), .int .i64 ((rd_T68 l0_1 a1).f1), .int .i64 ((rd_T68 l0_1 a1).f2)] 68 (0, 0))) ∧ (Below w.heap.size w w')) ?_ ?_
  rotate_left
  ·intro hJ10
   refine two_ (i := 4) (j := 10) (Ni := some 24) (Nj := some 30) #[true, true, true, true, true, false, false, true, true, true, false, false, false, true, true, true, false, false, false, false] #[true, true, true, true, false, false, false, true, true, true, true, false, false, true, true, true, false, false, false, false] rfl rfl rfl rfl (two_of HT_.out (by kernel_rfl)) (by decide) (by decide) (fun K hK => ?_) (fun K hK => ?_)
   rotate_left
   ·skip
    refine goes_ Tryd.func31 (by kernel_rfl) rfl #[.agg #[.int .i64 a0_0, .slice (some ad162) l0_1.length c0_1], .int .i64 ((rd_T68 l0_1 a1).f1)] (by rfl) rfl rfl gl_ ?_
    with_reducible refine (ih k (by omega) a0_0 _ _ l0_1 ((rd_T68 l0_1 a1).f1) t167 _ ?side1 ?side2 A11.out).mono ?_
    (case side1 => exact Kd.C_below (Kd.C_below HR0_1.out HB.out) lt_)
    (case side2 => exact HC0_1.out)
    rintro e w24 ⟨rfl, hb⟩
    refine ⟨_, rfl, ?_⟩
    replace BK160 := mk_ (blk_at BK160.out hb)
    replace BK163 := mk_ (blk_at BK163.out hb)
    replace HB := mk_ (below_step (at_ HB.out) hb)
    (try clear hb)
    (try clear hb2)
    (try clear hk)
    (try clear hi)
    refine hK.out _ _ ⟨(blk_cell BK163.out 0).trans rfl, (blk_cell BK163.out 1).trans rfl, (blk_cell BK163.out 2).trans rfl, (blk_cell BK160.out 0).trans rfl, (blk_cell BK160.out 1).trans rfl⟩ (fun hHeld => ?_)
    clear hK K
    refine nor_ (some 30) ?_
    exact norm_ (by first | (simp only [putAll, Act.put, z0_, z1_, z2_]; done) | (simp only [putAll, Act.put, z0_, z1_, z2_]; rfl)) (hJ10 () _ ⟨hHeld, (bk_ BK160.out), (bk_ BK163.out), (at_ HB.out)⟩)
   skip
   refine Kd.R_lit_step (Kd.int .u8) _ 5 ?hg (N := 24) ?hd (xs := ([(wrap64 (97 + ((rd_T68 l0_1 a1).f0))) % 256] : List Int)) (inner := [.int .u8 ((wrap64 (97 + ((rd_T68 l0_1 a1).f0))) % 256)]) (ok := fun _ => True) (okp := fun _ => True) ?hr ?hp (fun _ hk => hk) trivial (Below.refl _ _) (Nat.le_refl _) (by simp) ?_; (case hd => rfl); (case hg => rfl); (case hr => first | (go_simp; done) | (go_simp; rfl)); (case hp => exact (Reps.one (show Kd.M (Kd.int .u8) _ _ _ ((wrap64 (97 + ((rd_T68 l0_1 a1).f0))) % 256) [.int .u8 ((wrap64 (97 + ((rd_T68 l0_1 a1).f0))) % 256)] from rfl) (Reps.none _ _)))
   intro v165 w24 ho25 hb hg_ hnew_
   clear hg_ hnew_
   (first | rw [← Ny164.out] at ho25 | (simp only [Int.reduceToNat] at ho25; rw [← Ny164.out] at ho25))
   have HO166 := mk_ (Kd.R_lower ho25 (below_size (at_ HB.out)))
   replace BK160 := mk_ (blk_at BK160.out hb)
   replace BK163 := mk_ (blk_at BK163.out hb)
   replace HB := mk_ (below_step (at_ HB.out) hb)
   clear hb ho25
   refine hK.out _ _ ⟨(blk_cell BK163.out 0).trans rfl, (blk_cell BK163.out 1).trans rfl, (blk_cell BK163.out 2).trans rfl, (blk_cell BK160.out 0).trans rfl, (blk_cell BK160.out 1).trans rfl⟩ (fun hHeld => ?_)
   clear hK K
   refine nor_ (some 24) ?_
   exact norm_ (by first | (simp only [putAll, Act.put, z0_, z1_, z2_]; done) | (simp only [putAll, Act.put, z0_, z1_, z2_]; rfl)) (hJ4 (v165) _ ⟨hHeld, (Kd.R_below HO166.out lt_), (bk_ BK160.out), (bk_ BK163.out), (at_ HB.out)⟩)
  skip
  rintro _ w25 ⟨hS_, h0_, h1_, h2_⟩
  have n0_ : Aside0 (w25.heap[gb160]? = some (.cells #[.int .i64 a0_0, .slice (some ad162) l0_1.length c0_1] 27 (0, 0))) := ⟨h0_⟩
  have n1_ : Aside0 (w25.heap[gb163]? = some (.cells #[.int .i64 ((rd_T68 l0_1 a1).f0), .int .i64 ((rd_T68 l0_1 a1).f1), .int .i64 ((rd_T68 l0_1 a1).f2)] 68 (0, 0))) := ⟨h1_⟩
  have n2_ : Aside0 (Below w.heap.size w w25) := ⟨h2_⟩
  clear BK160
  clear BK163
  clear HB
  clear h0_ h1_ h2_
  have BK160 := n0_
  have BK163 := n1_
  have HB := n2_
  clear n0_ n1_ n2_
  have hHeld : w25.cell? ⟨gb163, 0, none⟩ = some (.int .i64 ((rd_T68 l0_1 a1).f0)) ∧ w25.cell? ⟨gb163, 1, none⟩ = some (.int .i64 ((rd_T68 l0_1 a1).f1)) ∧ w25.cell? ⟨gb163, 2, none⟩ = some (.int .i64 ((rd_T68 l0_1 a1).f2)) ∧ w25.cell? ⟨gb160, 0, none⟩ = some (.int .i64 a0_0) ∧ w25.cell? ⟨gb160, 1, none⟩ = some (.slice (some ad162) l0_1.length c0_1) := hS_
  refine norm_ (a' := ?_) ?_ ?_
  rotate_left
  ·simp only [putAll, Act.put, z0_, z1_, z2_]
   rfl
  refine two_ (i := 4) (j := 16) (Ni := some 24) (Nj := some 36) #[true, true, true, true, true, false, false, true, true, true, true, false, false, true, true, true, false, false, false, false] #[true, true, true, true, false, false, false, true, true, true, true, false, false, true, true, true, true, false, false, false] rfl rfl rfl rfl (two_of HT_.out (by kernel_rfl)) (by decide) (by decide) (fun K hK => ?_) (fun K hK => ?_)
  rotate_left
  ·skip
   refine goes_ Tryd.func31 (by kernel_rfl) rfl #[.agg #[.int .i64 a0_0, .slice (some ad162) l0_1.length c0_1], .int .i64 ((rd_T68 l0_1 a1).f2)] (by rfl) rfl rfl gl_ ?_
   with_reducible refine (ih k (by omega) a0_0 _ _ l0_1 ((rd_T68 l0_1 a1).f2) t168 _ ?side1 ?side2 A14.out).mono ?_
   (case side1 => exact Kd.C_below (Kd.C_below HR0_1.out HB.out) lt_)
   (case side2 => exact HC0_1.out)
   rintro e w26 ⟨rfl, hb⟩
   refine ⟨_, rfl, ?_⟩
   replace BK160 := mk_ (blk_at BK160.out hb)
   replace BK163 := mk_ (blk_at BK163.out hb)
   replace HB := mk_ (below_step (at_ HB.out) hb)
   (try clear hb)
   (try clear hb2)
   (try clear hk)
   (try clear hi)
   refine hK.out _ _ ⟨(blk_cell BK163.out 0).trans rfl, (blk_cell BK163.out 1).trans rfl, (blk_cell BK163.out 2).trans rfl, (blk_cell BK160.out 0).trans rfl, (blk_cell BK160.out 1).trans rfl⟩ (fun hHeld => ?_)
   clear hK K
   refine nor_ (some 36) ?_
   exact norm_ (by first | (simp only [putAll, Act.put, z0_, z1_, z2_]; done) | (simp only [putAll, Act.put, z0_, z1_, z2_]; rfl)) (hJ10_16 () _ ⟨hHeld, (bk_ BK160.out), (bk_ BK163.out), (at_ HB.out)⟩)
  skip
  refine Kd.R_lit_step (Kd.int .u8) _ 5 ?hg (N := 24) ?hd (xs := ([(wrap64 (97 + ((rd_T68 l0_1 a1).f0))) % 256] : List Int)) (inner := [.int .u8 ((wrap64 (97 + ((rd_T68 l0_1 a1).f0))) % 256)]) (ok := fun _ => True) (okp := fun _ => True) ?hr ?hp (fun _ hk => hk) trivial (Below.refl _ _) (Nat.le_refl _) (by simp) ?_; (case hd => rfl); (case hg => rfl); (case hr => first | (go_simp; done) | (go_simp; rfl)); (case hp => exact (Reps.one (show Kd.M (Kd.int .u8) _ _ _ ((wrap64 (97 + ((rd_T68 l0_1 a1).f0))) % 256) [.int .u8 ((wrap64 (97 + ((rd_T68 l0_1 a1).f0))) % 256)] from rfl) (Reps.none _ _)))
  intro v165 w26 ho27 hb hg_ hnew_
  clear hg_ hnew_
  (first | rw [← Ny164.out] at ho27 | (simp only [Int.reduceToNat] at ho27; rw [← Ny164.out] at ho27))
  have HO166 := mk_ (Kd.R_lower ho27 (below_size (at_ HB.out)))
  replace BK160 := mk_ (blk_at BK160.out hb)
  replace BK163 := mk_ (blk_at BK163.out hb)
  replace HB := mk_ (below_step (at_ HB.out) hb)
  clear hb ho27
  refine hK.out _ _ ⟨(blk_cell BK163.out 0).trans rfl, (blk_cell BK163.out 1).trans rfl, (blk_cell BK163.out 2).trans rfl, (blk_cell BK160.out 0).trans rfl, (blk_cell BK160.out 1).trans rfl⟩ (fun hHeld => ?_)
  clear hK K
  refine nor_ (some 24) ?_
  exact norm_ (by first | (simp only [putAll, Act.put, z0_, z1_, z2_]; done) | (simp only [putAll, Act.put, z0_, z1_, z2_]; rfl)) (hJ4_10 (v165) _ ⟨hHeld, (Kd.R_below HO166.out lt_), (bk_ BK160.out), (bk_ BK163.out), (at_ HB.out)⟩)
 rintro v165 w29 ⟨hS_, h0_, h1_, h2_, h3_⟩
 have n0_ : Aside0 (Kd.R (Kd.int .u8) 5 w29 w.heap.size (fun _ => True) v165 y164) := ⟨h0_⟩
 have n1_ : Aside0 (w29.heap[gb160]? = some (.cells #[.int .i64 a0_0, .slice (some ad162) l0_1.length c0_1] 27 (0, 0))) := ⟨h1_⟩
 have n2_ : Aside0 (w29.heap[gb163]? = some (.cells #[.int .i64 ((rd_T68 l0_1 a1).f0), .int .i64 ((rd_T68 l0_1 a1).f1), .int .i64 ((rd_T68 l0_1 a1).f2)] 68 (0, 0))) := ⟨h2_⟩
 have n3_ : Aside0 (Below w.heap.size w w29) := ⟨h3_⟩
 clear BK160
 clear BK163
 clear HB
 clear h0_ h1_ h2_ h3_
 have HO166 := n0_
 have BK160 := n1_
 have BK163 := n2_
 have HB := n3_
 clear n0_ n1_ n2_ n3_
 have hHeld : w29.cell? ⟨gb163, 0, none⟩ = some (.int .i64 ((rd_T68 l0_1 a1).f0)) ∧ w29.cell? ⟨gb163, 1, none⟩ = some (.int .i64 ((rd_T68 l0_1 a1).f1)) ∧ w29.cell? ⟨gb163, 2, none⟩ = some (.int .i64 ((rd_T68 l0_1 a1).f2)) ∧ w29.cell? ⟨gb160, 0, none⟩ = some (.int .i64 a0_0) ∧ w29.cell? ⟨gb160, 1, none⟩ = some (.slice (some ad162) l0_1.length c0_1) := hS_
 refine norm_ (a' := ?_) ?_ ?_
 rotate_left
 ·simp only [putAll, Act.put, z0_, z1_, z2_]
  rfl
 refine pus_ 17 (some 37) (ao_ HT_) ?_
 refine pus_ 18 (some 38) (ao_ HT_) ?_
 refine pus_ 19 (some 4) (ao_ HT_) ?_
 refine done_ (done_of HT_.out (by kernel_rfl)) ?_
 try go_wp2
 go_ret
 exact ⟨er_, at_ HB.out⟩

end Go.Proofs.YtcaogllnbpmcgaaDoor.P

/- Go's functions come to just the answers of the Lean functions told here. -/
import Derived.Test.YtcaogllnbpmcgaaDoorPx24
namespace Go.Proofs.YtcaogllnbpmcgaaDoor.P
open Go.RowKit Go.Proofs.YtcaogllnbpmcgaaDoorW.PrintWords Go.Proofs.YtcaogllnbpmcgaaDoorW.PrintLast Go.Proofs.YtcaogllnbpmcgaaDoorW.PrintMore
attribute [local go_sem] max2_int min2_int max_two min_two max_three min_three max_four min_four
set_option linter.unusedVariables false
set_option linter.unusedSimpArgs false
def spec_l11Text.f : Nat → Int → List (S68) → Int → Option (ByteArray)
 | 0, _, _, _ => none
 | k + 1, a0_0, l0_1, a1 => if a1 = (-1) then (some (⟨#[42]⟩ : ByteArray)) else (if a1 < 0 then ((spec_l1Number.f k (wrap64 ((-2) - a1))).bind fun t463 => (some t463)) else (if 0 ≤ a1 then (if a1 < (l0_1.length : Int) then (if 0 ≤ ((rd_T68 l0_1 a1).f0) then (if ((rd_T68 l0_1 a1).f0) ≤ (wrap64 (((rd_T68 l0_1 a1).f0) + 1)) then (if (wrap64 (((rd_T68 l0_1 a1).f0) + 1)) ≤ 4 then (if ((⟨#[97, 98, 99, 100]⟩ : ByteArray).extract (((rd_T68 l0_1 a1).f0) : Int).toNat ((wrap64 (((rd_T68 l0_1 a1).f0) + 1)) : Int).toNat).size + 1 ≤ 9223372036854775807 then ((spec_l11Text.f k a0_0 l0_1 ((rd_T68 l0_1 a1).f1)).bind fun t466 => (if (((⟨#[97, 98, 99, 100]⟩ : ByteArray).extract (((rd_T68 l0_1 a1).f0) : Int).toNat ((wrap64 (((rd_T68 l0_1 a1).f0) + 1)) : Int).toNat) ++ (⟨#[40]⟩ : ByteArray)).size + t466.size ≤ 9223372036854775807 then (if ((((⟨#[97, 98, 99, 100]⟩ : ByteArray).extract (((rd_T68 l0_1 a1).f0) : Int).toNat ((wrap64 (((rd_T68 l0_1 a1).f0) + 1)) : Int).toNat) ++ (⟨#[40]⟩ : ByteArray)) ++ t466).size + 1 ≤ 9223372036854775807 then ((spec_l11Text.f k a0_0 l0_1 ((rd_T68 l0_1 a1).f2)).bind fun t467 => (if (((((⟨#[97, 98, 99, 100]⟩ : ByteArray).extract (((rd_T68 l0_1 a1).f0) : Int).toNat ((wrap64 (((rd_T68 l0_1 a1).f0) + 1)) : Int).toNat) ++ (⟨#[40]⟩ : ByteArray)) ++ t466) ++ (⟨#[44]⟩ : ByteArray)).size + t467.size ≤ 9223372036854775807 then (if ((((((⟨#[97, 98, 99, 100]⟩ : ByteArray).extract (((rd_T68 l0_1 a1).f0) : Int).toNat ((wrap64 (((rd_T68 l0_1 a1).f0) + 1)) : Int).toNat) ++ (⟨#[40]⟩ : ByteArray)) ++ t466) ++ (⟨#[44]⟩ : ByteArray)) ++ t467).size + 1 ≤ 9223372036854775807 then (some (((((((⟨#[97, 98, 99, 100]⟩ : ByteArray).extract (((rd_T68 l0_1 a1).f0) : Int).toNat ((wrap64 (((rd_T68 l0_1 a1).f0) + 1)) : Int).toNat) ++ (⟨#[40]⟩ : ByteArray)) ++ t466) ++ (⟨#[44]⟩ : ByteArray)) ++ t467) ++ (⟨#[41]⟩ : ByteArray))) else (none)) else (none))) else (none)) else (none))) else (none)) else (none)) else (none)) else (none)) else (none)) else (none)))
def spec_l11Text.T6 : Bool × List (List Nat × List Nat) := (true, [([], []), ([0], [0]), ([], []), ([2], [2]), ([3], [3]), ([1, 4], [1, 4]), ([5], [5]), ([], []), ([], []), ([8], [8]), ([7, 9], [7, 9]), ([6, 10], [6, 10]), ([11], [11]), ([], []), ([], []), ([14], [14]), ([13, 15, 10], [13, 15]), ([12, 16], [12, 16]), ([17], [17]), ([18, 16, 0, 1, 2, 3, 4, 5, 6, 7, 8, 9, 10, 11, 12, 13, 14, 15, 16, 17, 18], [18])])
def spec_l11Text.B6 : List Nat := [0, 1, 0, 4, 12, 31, 63, 0, 0, 256, 896, 2047, 4095, 0, 0, 16384, 59264, 131071, 262143, 524287]
theorem spec_l11Text.tab6 : rtab .any (opsOf Tryd.f33 6) = spec_l11Text.T6 := by kernel_rfl
theorem spec_l11Text.bits6 : waitsOk spec_l11Text.T6.2 spec_l11Text.B6 = true := by kernel_rfl
set_option maxHeartbeats 8000000 in
set_option maxRecDepth 100000 in
theorem spec_l11Text.calls (k : Nat) : ∀ (a0_0 : Int) (A0_1 : Option Addr) (c0_1 : Nat) (l0_1 : List (S68)) (a1 : Int) (r : ByteArray) (w : World) (hr0_1 : Kd.C k68 w A0_1 l0_1.length l0_1) (hc0_1 : l0_1.length ≤ c0_1) (h : spec_l11Text.f k a0_0 l0_1 a1 = some r),
  Calls Tryd.prog 33 #[.agg #[.int .i64 a0_0, .slice A0_1 l0_1.length c0_1], .int .i64 a1] w fun e w' => e = .returned (.string r) ∧ Below w.heap.size w w' := by
 induction k using Nat.strongRecOn with
 | _ k ih =>
 intro a0_0 A0_1 c0_1 l0_1 a1 r w hr0_1 hc0_1 h
 cases k with
 | zero => exact absurd h (by simp [spec_l11Text.f])
 | succ k =>
 simp only [spec_l11Text.f] at h
 have hu27 := Tryd.underlying27
 have hu68 := Tryd.underlying68
 have HR0_1 := mk_ hr0_1
 have HC0_1 := mk_ hc0_1
 clear hr0_1 hc0_1
 have HB := mk_ (Below.refl w.heap.size w)
 have H : (if a1 = (-1) then (some (⟨#[42]⟩ : ByteArray)) else (if a1 < 0 then ((spec_l1Number.f k (wrap64 ((-2) - a1))).bind fun t463 => (some t463)) else (if 0 ≤ a1 then (if a1 < (l0_1.length : Int) then (if 0 ≤ ((rd_T68 l0_1 a1).f0) then (if ((rd_T68 l0_1 a1).f0) ≤ (wrap64 (((rd_T68 l0_1 a1).f0) + 1)) then (if (wrap64 (((rd_T68 l0_1 a1).f0) + 1)) ≤ 4 then (if ((⟨#[97, 98, 99, 100]⟩ : ByteArray).extract (((rd_T68 l0_1 a1).f0) : Int).toNat ((wrap64 (((rd_T68 l0_1 a1).f0) + 1)) : Int).toNat).size + 1 ≤ 9223372036854775807 then ((spec_l11Text.f k a0_0 l0_1 ((rd_T68 l0_1 a1).f1)).bind fun t466 => (if (((⟨#[97, 98, 99, 100]⟩ : ByteArray).extract (((rd_T68 l0_1 a1).f0) : Int).toNat ((wrap64 (((rd_T68 l0_1 a1).f0) + 1)) : Int).toNat) ++ (⟨#[40]⟩ : ByteArray)).size + t466.size ≤ 9223372036854775807 then (if ((((⟨#[97, 98, 99, 100]⟩ : ByteArray).extract (((rd_T68 l0_1 a1).f0) : Int).toNat ((wrap64 (((rd_T68 l0_1 a1).f0) + 1)) : Int).toNat) ++ (⟨#[40]⟩ : ByteArray)) ++ t466).size + 1 ≤ 9223372036854775807 then ((spec_l11Text.f k a0_0 l0_1 ((rd_T68 l0_1 a1).f2)).bind fun t467 => (if (((((⟨#[97, 98, 99, 100]⟩ : ByteArray).extract (((rd_T68 l0_1 a1).f0) : Int).toNat ((wrap64 (((rd_T68 l0_1 a1).f0) + 1)) : Int).toNat) ++ (⟨#[40]⟩ : ByteArray)) ++ t466) ++ (⟨#[44]⟩ : ByteArray)).size + t467.size ≤ 9223372036854775807 then (if ((((((⟨#[97, 98, 99, 100]⟩ : ByteArray).extract (((rd_T68 l0_1 a1).f0) : Int).toNat ((wrap64 (((rd_T68 l0_1 a1).f0) + 1)) : Int).toNat) ++ (⟨#[40]⟩ : ByteArray)) ++ t466) ++ (⟨#[44]⟩ : ByteArray)) ++ t467).size + 1 ≤ 9223372036854775807 then (some (((((((⟨#[97, 98, 99, 100]⟩ : ByteArray).extract (((rd_T68 l0_1 a1).f0) : Int).toNat ((wrap64 (((rd_T68 l0_1 a1).f0) + 1)) : Int).toNat) ++ (⟨#[40]⟩ : ByteArray)) ++ t466) ++ (⟨#[44]⟩ : ByteArray)) ++ t467) ++ (⟨#[41]⟩ : ByteArray))) else (none)) else (none))) else (none)) else (none))) else (none)) else (none)) else (none)) else (none)) else (none)) else (none)))) = some r := h
 clear h
 revert H; refine it_ (qt_ fun c3b0 c3b1 H => ?_) (qfk_ fun c3 c3b0 c3b1 H => ?_)
 ·obtain rfl := Option.some.inj H
  go_enter Tryd.func33, Tryd.ntmps33
  go_wp2_with (first | ((with_reducible refine gate_dst (N := 2) rfl ?_); refine gx_ 2 #[.int .i64 a0_0, .slice A0_1 l0_1.length c0_1] 27 ?_; intro gb462 hg w4 hbox hb; have GW462 := gm_ hg HB.out; have GE462 := gm_ hg HB.out; replace HB := mk_ (below_step (below_at HB.out) hb); clear hb hbox hg))
  go_ret
  exact ⟨er_, at_ HB.out⟩
 revert H; refine it_ (dt_ fun c5b0 H => ?_) (df_ fun c5b0 H => ?_)
 ·replace H := Option.bind_eq_some_iff.mp H
  obtain ⟨t463, A60, H⟩ := H
  replace H : (some t463) = some r := H
  have A6 := mk_ A60
  clear A60
  obtain rfl := Option.some.inj H
  go_enter Tryd.func33, Tryd.ntmps33
  go_wp2_with (first | ((with_reducible refine gate_dst (N := 2) rfl ?_); refine gx_ 2 #[.int .i64 a0_0, .slice A0_1 l0_1.length c0_1] 27 ?_; intro gb462 hg w7 hbox hb; have GW462 := gm_ hg HB.out; have GE462 := gm_ hg HB.out; replace HB := mk_ (below_step (below_at HB.out) hb); clear hb hbox hg) | ((with_reducible refine gate_callee (f := 62) rfl ?_); refine gc_ 62 (some 12) Tryd.func62 #[.int .i64 (wrap64 ((-2) - a1))] ?_; (with_reducible refine (spec_l1Number.calls k (wrap64 ((-2) - a1)) t463 _ A6.out).mono ?_); rintro e w8 ⟨rfl, hb⟩; refine ⟨_, rfl, ?_⟩; replace HB := mk_ (below_step (at_ HB.out) hb); (try clear BK462); (try clear hb)))
  go_ret
  exact ⟨er_, at_ HB.out⟩
 revert H; refine g_ (dt_ fun c9b0 => g_ (dt_ fun c10b0 => g_ (et_ fun c11b0 c11b1 => g_ (fun c12 H => ?_))))
 have c12b0 := eq_true c12
 have c12b1 : decide (((rd_T68 l0_1 a1).f0) ≤ (wrap64 (((rd_T68 l0_1 a1).f0) + 1))) = true := decide_eq_true c12
 revert H; refine g_ (fun c13 H => ?_)
 have c13b0 := eq_true c13
 have c13b1 : decide ((wrap64 (((rd_T68 l0_1 a1).f0) + 1)) ≤ 4) = true := decide_eq_true c13
 revert H; refine g_ (fun c14 H => ?_)
 have c14b0 := eq_true c14
 have c14b1 : decide (((⟨#[97, 98, 99, 100]⟩ : ByteArray).extract (((rd_T68 l0_1 a1).f0) : Int).toNat ((wrap64 (((rd_T68 l0_1 a1).f0) + 1)) : Int).toNat).size + 1 ≤ 9223372036854775807) = true := decide_eq_true c14
 try have c14b2 : (9223372036854775807 < ((⟨#[97, 98, 99, 100]⟩ : ByteArray).extract (((rd_T68 l0_1 a1).f0) : Int).toNat ((wrap64 (((rd_T68 l0_1 a1).f0) + 1)) : Int).toNat).size + 1) = False := eq_false (Nat.not_lt.2 c14)
 try (have c14b3 := c14b2; simp only [ByteArray.size_append', show (⟨#[97, 98, 99, 100]⟩ : ByteArray).size = 4 from rfl, ByteArray.size_extract, Nat.min_eq_left (show ((wrap64 (((rd_T68 l0_1 a1).f0) + 1)) : Int).toNat ≤ 4 by omega)] at c14b3)
 revert H; refine bd_ fun t466 A15 H => ?_
 try dsimp only at H
 revert H; refine g_ (fun c16 H => ?_)
 have c16b0 := eq_true c16
 have c16b1 : decide ((((⟨#[97, 98, 99, 100]⟩ : ByteArray).extract (((rd_T68 l0_1 a1).f0) : Int).toNat ((wrap64 (((rd_T68 l0_1 a1).f0) + 1)) : Int).toNat) ++ (⟨#[40]⟩ : ByteArray)).size + t466.size ≤ 9223372036854775807) = true := decide_eq_true c16
 try have c16b2 : (9223372036854775807 < (((⟨#[97, 98, 99, 100]⟩ : ByteArray).extract (((rd_T68 l0_1 a1).f0) : Int).toNat ((wrap64 (((rd_T68 l0_1 a1).f0) + 1)) : Int).toNat) ++ (⟨#[40]⟩ : ByteArray)).size + t466.size) = False := eq_false (Nat.not_lt.2 c16)
 try (have c16b3 := c16b2; simp only [ByteArray.size_append', show (⟨#[40]⟩ : ByteArray).size = 1 from rfl, show (⟨#[97, 98, 99, 100]⟩ : ByteArray).size = 4 from rfl, ByteArray.size_extract, Nat.min_eq_left (show ((wrap64 (((rd_T68 l0_1 a1).f0) + 1)) : Int).toNat ≤ 4 by omega)] at c16b3)
 revert H; refine g_ (fun c17 H => ?_)
 have c17b0 := eq_true c17
 have c17b1 : decide (((((⟨#[97, 98, 99, 100]⟩ : ByteArray).extract (((rd_T68 l0_1 a1).f0) : Int).toNat ((wrap64 (((rd_T68 l0_1 a1).f0) + 1)) : Int).toNat) ++ (⟨#[40]⟩ : ByteArray)) ++ t466).size + 1 ≤ 9223372036854775807) = true := decide_eq_true c17
 try have c17b2 : (9223372036854775807 < ((((⟨#[97, 98, 99, 100]⟩ : ByteArray).extract (((rd_T68 l0_1 a1).f0) : Int).toNat ((wrap64 (((rd_T68 l0_1 a1).f0) + 1)) : Int).toNat) ++ (⟨#[40]⟩ : ByteArray)) ++ t466).size + 1) = False := eq_false (Nat.not_lt.2 c17)
 try (have c17b3 := c17b2; simp only [ByteArray.size_append', show (⟨#[40]⟩ : ByteArray).size = 1 from rfl, show (⟨#[97, 98, 99, 100]⟩ : ByteArray).size = 4 from rfl, ByteArray.size_extract, Nat.min_eq_left (show ((wrap64 (((rd_T68 l0_1 a1).f0) + 1)) : Int).toNat ≤ 4 by omega)] at c17b3)
 revert H; refine bd_ fun t467 A18 H => ?_
 try dsimp only at H
 revert H; refine g_ (fun c19 H => ?_)
 have c19b0 := eq_true c19
 have c19b1 : decide ((((((⟨#[97, 98, 99, 100]⟩ : ByteArray).extract (((rd_T68 l0_1 a1).f0) : Int).toNat ((wrap64 (((rd_T68 l0_1 a1).f0) + 1)) : Int).toNat) ++ (⟨#[40]⟩ : ByteArray)) ++ t466) ++ (⟨#[44]⟩ : ByteArray)).size + t467.size ≤ 9223372036854775807) = true := decide_eq_true c19
 try have c19b2 : (9223372036854775807 < (((((⟨#[97, 98, 99, 100]⟩ : ByteArray).extract (((rd_T68 l0_1 a1).f0) : Int).toNat ((wrap64 (((rd_T68 l0_1 a1).f0) + 1)) : Int).toNat) ++ (⟨#[40]⟩ : ByteArray)) ++ t466) ++ (⟨#[44]⟩ : ByteArray)).size + t467.size) = False := eq_false (Nat.not_lt.2 c19)
 try (have c19b3 := c19b2; simp only [ByteArray.size_append', show (⟨#[40]⟩ : ByteArray).size = 1 from rfl, show (⟨#[44]⟩ : ByteArray).size = 1 from rfl, show (⟨#[97, 98, 99, 100]⟩ : ByteArray).size = 4 from rfl, ByteArray.size_extract, Nat.min_eq_left (show ((wrap64 (((rd_T68 l0_1 a1).f0) + 1)) : Int).toNat ≤ 4 by omega)] at c19b3)
 revert H; refine g_ (fun c20 H => ?_)
 have c20b0 := eq_true c20
 have c20b1 : decide (((((((⟨#[97, 98, 99, 100]⟩ : ByteArray).extract (((rd_T68 l0_1 a1).f0) : Int).toNat ((wrap64 (((rd_T68 l0_1 a1).f0) + 1)) : Int).toNat) ++ (⟨#[40]⟩ : ByteArray)) ++ t466) ++ (⟨#[44]⟩ : ByteArray)) ++ t467).size + 1 ≤ 9223372036854775807) = true := decide_eq_true c20
 try have c20b2 : (9223372036854775807 < ((((((⟨#[97, 98, 99, 100]⟩ : ByteArray).extract (((rd_T68 l0_1 a1).f0) : Int).toNat ((wrap64 (((rd_T68 l0_1 a1).f0) + 1)) : Int).toNat) ++ (⟨#[40]⟩ : ByteArray)) ++ t466) ++ (⟨#[44]⟩ : ByteArray)) ++ t467).size + 1) = False := eq_false (Nat.not_lt.2 c20)
 try (have c20b3 := c20b2; simp only [ByteArray.size_append', show (⟨#[40]⟩ : ByteArray).size = 1 from rfl, show (⟨#[44]⟩ : ByteArray).size = 1 from rfl, show (⟨#[97, 98, 99, 100]⟩ : ByteArray).size = 4 from rfl, ByteArray.size_extract, Nat.min_eq_left (show ((wrap64 (((rd_T68 l0_1 a1).f0) + 1)) : Int).toNat ≤ 4 by omega)] at c20b3)
 obtain rfl := Option.some.inj H
 go_enter Tryd.func33, Tryd.ntmps33
 try go_wp2_with (first | ((with_reducible refine gate_dst (N := 2) rfl ?_); refine gx_ 2 #[.int .i64 a0_0, .slice A0_1 l0_1.length c0_1] 27 ?_; intro gb462 hg w21 hbox hb; have BK462 := mk_ (hbox); have GW462 := gm_ hg HB.out; have GE462 := gm_ hg HB.out; replace HB := mk_ (below_step (below_at HB.out) hb); clear hb hbox hg; have hcz22_0 := blk_cell BK462.out 0; have hcz22_1 := blk_cell BK462.out 1; have hfz22_0 := blk_frozen BK462.out 0; have hfz22_1 := blk_frozen BK462.out 1; have p464 : 0 ≤ (a1 : Int) := oa_; have q464 : a1 < (l0_1.length : Int) := oa_; obtain ⟨ad464, e464, hx464_0, hx464_1, hx464_2⟩ := at_T68 HR0_1.out a1 p464 q464; cases e464; replace hx464_0 := cel HB.out hx464_0; replace hx464_1 := cel HB.out hx464_1; replace hx464_2 := cel HB.out hx464_2; replace p464 := eq_true p464; replace q464 := eq_true q464) | ((with_reducible refine gate_dst (N := 5) rfl ?_); refine gx_ 5 #[.int .i64 0, .int .i64 0, .int .i64 0] 68 ?_; intro gb465 hg w23 hbox hb; have BK465 := mk_ (hbox); have GW465 := gw_ hg HB.out; have GE465 := gw_ hg HB.out; replace HB := mk_ (below_step (at_ HB.out) hb); have NB462_465 := nl_ hg BK462.out; have NB465_462 := ng_ hg BK462.out; replace BK462 := mk_ (blk_at BK462.out hb); clear hb hbox hg; have hnb24 := NB465_462.out; have hnc24 := NB462_465.out; have hcz25_0 := blk_cell BK465.out 0; have hcz25_1 := blk_cell BK465.out 1; have hcz25_2 := blk_cell BK465.out 2; have hfz25_0 := blk_frozen BK465.out 0; have hfz25_1 := blk_frozen BK465.out 1; have hfz25_2 := blk_frozen BK465.out 2))
 have n0_ : Aside0 ((((w23.setCell ⟨gb465, 0, none⟩ (.int .i64 ((rd_T68 l0_1 a1).f0))).setCell ⟨gb465, 1, none⟩ (.int .i64 ((rd_T68 l0_1 a1).f1))).setCell ⟨gb465, 2, none⟩ (.int .i64 ((rd_T68 l0_1 a1).f2))).heap[gb462]? = some (.cells #[.int .i64 a0_0, .slice (some ad464) l0_1.length c0_1] 27 (0, 0))) := ⟨by refine bs_ ?_; refine blk_far ?_ NB462_465.out _; refine bs_ ?_; refine blk_far ?_ NB462_465.out _; refine bs_ ?_; refine blk_far ?_ NB462_465.out _; refine bs_ ?_; exact BK462.out⟩
 have n1_ : Aside0 ((((w23.setCell ⟨gb465, 0, none⟩ (.int .i64 ((rd_T68 l0_1 a1).f0))).setCell ⟨gb465, 1, none⟩ (.int .i64 ((rd_T68 l0_1 a1).f1))).setCell ⟨gb465, 2, none⟩ (.int .i64 ((rd_T68 l0_1 a1).f2))).heap[gb465]? = some (.cells #[.int .i64 ((rd_T68 l0_1 a1).f0), .int .i64 ((rd_T68 l0_1 a1).f1), .int .i64 ((rd_T68 l0_1 a1).f2)] 68 (0, 0))) := ⟨by refine bs_ ?_; refine blk_put (cs := #[.int .i64 ((rd_T68 l0_1 a1).f0), .int .i64 ((rd_T68 l0_1 a1).f1), .int .i64 0]) ?_ 2 _ rfl; refine bs_ ?_; refine blk_put (cs := #[.int .i64 ((rd_T68 l0_1 a1).f0), .int .i64 0, .int .i64 0]) ?_ 1 _ rfl; refine bs_ ?_; refine blk_put (cs := #[.int .i64 0, .int .i64 0, .int .i64 0]) ?_ 0 _ rfl; refine bs_ ?_; exact BK465.out⟩
 have n2_ : Aside0 (Below w.heap.size w (((w23.setCell ⟨gb465, 0, none⟩ (.int .i64 ((rd_T68 l0_1 a1).f0))).setCell ⟨gb465, 1, none⟩ (.int .i64 ((rd_T68 l0_1 a1).f1))).setCell ⟨gb465, 2, none⟩ (.int .i64 ((rd_T68 l0_1 a1).f2)))) := ⟨at_ HB.out⟩
 (try clear BK462)
 (try clear BK465)
 (try clear HB)
 generalize (((w23.setCell ⟨gb465, 0, none⟩ (.int .i64 ((rd_T68 l0_1 a1).f0))).setCell ⟨gb465, 1, none⟩ (.int .i64 ((rd_T68 l0_1 a1).f1))).setCell ⟨gb465, 2, none⟩ (.int .i64 ((rd_T68 l0_1 a1).f2))) = w26 at n0_ n1_ n2_ ⊢
 have BK462 := n0_
 have BK465 := n1_
 have HB := n2_
 clear n0_ n1_ n2_
 replace BK462 := mk_ (blk_drew BK462.out)
 replace BK465 := mk_ (blk_drew BK465.out)
 replace HB := mk_ (below_drew1 HB.out)
 refine start_ (n := 20) (S := fun w' => w'.cell? ⟨gb465, 0, none⟩ = some (.int .i64 ((rd_T68 l0_1 a1).f0)) ∧ w'.cell? ⟨gb465, 1, none⟩ = some (.int .i64 ((rd_T68 l0_1 a1).f1)) ∧ w'.cell? ⟨gb465, 2, none⟩ = some (.int .i64 ((rd_T68 l0_1 a1).f2)) ∧ w'.cell? ⟨gb462, 0, none⟩ = some (.int .i64 a0_0) ∧ w'.cell? ⟨gb462, 1, none⟩ = some (.slice (some ad464) l0_1.length c0_1)) (ds := []) #[false, false, false, false, false, false, false, false, false, false, false, false, false, false, false, false, false, false, false, false] (by kernel_rfl) rfl rfl ⟨(blk_cell BK465.out 0).trans rfl, (blk_cell BK465.out 1).trans rfl, (blk_cell BK465.out 2).trans rfl, (blk_cell BK462.out 0).trans rfl, (blk_cell BK462.out 1).trans rfl⟩ (fun hHeld => ?_); refine with_tabW spec_l11Text.tab6 spec_l11Text.bits6 (fun HT_ HW_ => ?_)
 generalize w26.drew = w27 at BK462 BK465 HB hHeld ⊢
 refine pus_ 0 (some 18) (ao_ HT_) ?_
 refine pus_ 2 (some 20) (ao_ HT_) ?_
 refine pus_ 8 (some 26) (ao_ HT_) ?_
 refine pus_ 14 (some 32) (ao_ HT_) ?_
 refine tas_ 1 (some 19) (to_ HT_ HW_) hHeld ?_
 refine tas_ 3 (some 21) (to_ HT_ HW_) hHeld ?_
 refine pus_ 4 (some 22) (ao_ HT_) ?_
 refine pus_ 5 (some 23) (ao_ HT_) ?_
 refine pus_ 6 (some 24) (ao_ HT_) ?_
 refine tas_ 7 (some 25) (to_ HT_ HW_) hHeld ?_
 refine tas_ 9 (some 27) (to_ HT_ HW_) hHeld ?_
 refine tas_ 13 (some 31) (to_ HT_ HW_) hHeld ?_
 refine tas_ 15 (some 33) (to_ HT_ HW_) hHeld ?_
 refine ons_ 10 (some 28) (oo_ HT_) (fun K hK => ?_)
 refine goes_ Tryd.func33 (by kernel_rfl) rfl #[.agg #[.int .i64 a0_0, .slice (some ad464) l0_1.length c0_1], .int .i64 ((rd_T68 l0_1 a1).f1)] (by rfl) rfl rfl gl_ ?_
 with_reducible refine (ih k (by omega) a0_0 _ _ l0_1 ((rd_T68 l0_1 a1).f1) t466 _ ?side1 ?side2 A15.out).mono ?_
 (case side1 => exact Kd.C_below (Kd.C_below HR0_1.out HB.out) lt_)
 (case side2 => exact HC0_1.out)
 rintro e w28 ⟨rfl, hb⟩
 refine ⟨_, rfl, ?_⟩
 replace BK462 := mk_ (blk_at BK462.out hb)
 replace BK465 := mk_ (blk_at BK465.out hb)
 replace HB := mk_ (below_step (at_ HB.out) hb)
 (try clear hb)
 (try clear hb2)
 (try clear hk)
 (try clear hi)
 refine hK.out _ _ ⟨(blk_cell BK465.out 0).trans rfl, (blk_cell BK465.out 1).trans rfl, (blk_cell BK465.out 2).trans rfl, (blk_cell BK462.out 0).trans rfl, (blk_cell BK462.out 1).trans rfl⟩ (fun hHeld => ?_)
 clear hK K
 refine nor_ (some 28) ?_
 refine pus_ 11 (some 29) (ao_ HT_) ?_
 refine pus_ 12 (some 30) (ao_ HT_) ?_
 refine ons_ 16 (some 34) (oo_ HT_) (fun K hK => ?_)
 refine goes_ Tryd.func33 (by kernel_rfl) rfl #[.agg #[.int .i64 a0_0, .slice (some ad464) l0_1.length c0_1], .int .i64 ((rd_T68 l0_1 a1).f2)] (by rfl) rfl rfl gl_ ?_
 with_reducible refine (ih k (by omega) a0_0 _ _ l0_1 ((rd_T68 l0_1 a1).f2) t467 _ ?side1 ?side2 A18.out).mono ?_
 (case side1 => exact Kd.C_below (Kd.C_below HR0_1.out HB.out) lt_)
 (case side2 => exact HC0_1.out)
 rintro e w29 ⟨rfl, hb⟩
 refine ⟨_, rfl, ?_⟩
 replace BK462 := mk_ (blk_at BK462.out hb)
 replace BK465 := mk_ (blk_at BK465.out hb)
 replace HB := mk_ (below_step (at_ HB.out) hb)
 (try clear hb)
 (try clear hb2)
 (try clear hk)
 (try clear hi)
 refine hK.out _ _ ⟨(blk_cell BK465.out 0).trans rfl, (blk_cell BK465.out 1).trans rfl, (blk_cell BK465.out 2).trans rfl, (blk_cell BK462.out 0).trans rfl, (blk_cell BK462.out 1).trans rfl⟩ (fun hHeld => ?_)
 clear hK K
 refine nor_ (some 34) ?_
 refine pus_ 17 (some 35) (ao_ HT_) ?_
 refine pus_ 18 (some 36) (ao_ HT_) ?_
 refine pus_ 19 (some 4) (ao_ HT_) ?_
 refine done_ (done_of HT_.out (by kernel_rfl)) ?_
 try go_wp2
 go_ret
 exact ⟨er_, at_ HB.out⟩
def spec_ProofText.f (k : Nat) (a0 : Int) (l1 : List (S79)) (l2 : List (S82)) (a3_0 : Int) (l3_1 : List (S68)) : Option (ByteArray) := (spec_ProofOk.f k a0 l1 l2 a3_0 l3_1).bind fun t469 => (if t469 = true then ((spec_l11Text.f k a3_0 l3_1 a3_0).bind fun t470 => (some t470)) else (some (⟨#[]⟩ : ByteArray)))
set_option maxHeartbeats 8000000 in
set_option maxRecDepth 100000 in
theorem spec_ProofText.calls (k : Nat) (a0 : Int) (A1 : Option Addr) (c1 : Nat) (l1 : List (S79)) (A2 : Option Addr) (c2 : Nat) (l2 : List (S82)) (a3_0 : Int) (A3_1 : Option Addr) (c3_1 : Nat) (l3_1 : List (S68)) (r : ByteArray) (w : World) (hr1 : Kd.C k79 w A1 l1.length l1) (hc1 : l1.length ≤ c1) (hr2 : Kd.C k82 w A2 l2.length l2) (hc2 : l2.length ≤ c2) (hr3_1 : Kd.C k68 w A3_1 l3_1.length l3_1) (hc3_1 : l3_1.length ≤ c3_1) (h : spec_ProofText.f k a0 l1 l2 a3_0 l3_1 = some r) :
  Calls Tryd.prog 9 #[.int .i64 a0, .slice A1 l1.length c1, .slice A2 l2.length c2, .agg #[.int .i64 a3_0, .slice A3_1 l3_1.length c3_1]] w fun e w' => e = .returned (.string r) ∧ Below w.heap.size w w' := by
 have hu27 := Tryd.underlying27
 have HR1 := mk_ hr1
 have HC1 := mk_ hc1
 clear hr1 hc1
 have HR2 := mk_ hr2
 have HC2 := mk_ hc2
 clear hr2 hc2
 have HR3_1 := mk_ hr3_1
 have HC3_1 := mk_ hc3_1
 clear hr3_1 hc3_1
 have HB := mk_ (Below.refl w.heap.size w)
 unfold spec_ProofText.f at h
 have H := h
 clear h
 revert H; refine bd_ fun t469 A5 H => ?_
 try dsimp only at H
 revert H; refine bi_ ?_ ?_ <;> rintro rfl H
 ·obtain rfl := Option.some.inj H
  go_enter Tryd.func9, Tryd.ntmps9
  go_wp2_with (first | ((with_reducible refine gate_dst (N := 7) rfl ?_); refine gx_ 7 #[.int .i64 a3_0, .slice A3_1 l3_1.length c3_1] 27 ?_; intro gb468 hg w13 hbox hb; have BK468 := mk_ (hbox); have GW468 := gm_ hg HB.out; have GE468 := gm_ hg HB.out; replace HB := mk_ (below_step (below_at HB.out) hb); clear hb hbox hg; have hcz14_0 := blk_cell BK468.out 0; have hcz14_1 := blk_cell BK468.out 1; have hfz14_0 := blk_frozen BK468.out 0; have hfz14_1 := blk_frozen BK468.out 1) | ((with_reducible refine gate_callee (f := 32) rfl ?_); refine gc_ 32 (some 13) Tryd.func32 #[.int .i64 a0, .slice A1 l1.length c1, .slice A2 l2.length c2, .agg #[.int .i64 a3_0, .slice A3_1 l3_1.length c3_1]] ?_; (with_reducible refine (spec_ProofOk.calls k a0 _ _ l1 _ _ l2 a3_0 _ _ l3_1 false _ ?side1 ?side2 ?side3 ?side4 ?side5 ?side6 A5.out).mono ?_); (case side1 => exact Kd.C_below (Kd.C_below HR1.out HB.out) lt_); (case side2 => exact HC1.out); (case side3 => exact Kd.C_below (Kd.C_below HR2.out HB.out) lt_); (case side4 => exact HC2.out); (case side5 => exact Kd.C_below (Kd.C_below HR3_1.out HB.out) lt_); (case side6 => exact HC3_1.out); rintro e w15 ⟨rfl, hb⟩; refine ⟨_, rfl, ?_⟩; replace HB := mk_ (below_step (at_ HB.out) hb); (try clear BK468); (try clear hb)))
  go_ret
  exact ⟨er_, at_ HB.out⟩
 replace H := Option.bind_eq_some_iff.mp H
 obtain ⟨t470, A70, H⟩ := H
 replace H : (some t470) = some r := H
 have A7 := mk_ A70
 clear A70
 obtain rfl := Option.some.inj H
 go_enter Tryd.func9, Tryd.ntmps9
 go_wp2_with (first | ((with_reducible refine gate_dst (N := 7) rfl ?_); refine gx_ 7 #[.int .i64 a3_0, .slice A3_1 l3_1.length c3_1] 27 ?_; intro gb468 hg w8 hbox hb; have BK468 := mk_ (hbox); have GW468 := gm_ hg HB.out; have GE468 := gm_ hg HB.out; replace HB := mk_ (below_step (below_at HB.out) hb); clear hb hbox hg; have hcz9_0 := blk_cell BK468.out 0; have hcz9_1 := blk_cell BK468.out 1; have hfz9_0 := blk_frozen BK468.out 0; have hfz9_1 := blk_frozen BK468.out 1) | ((with_reducible refine gate_callee (f := 32) rfl ?_); refine gc_ 32 (some 13) Tryd.func32 #[.int .i64 a0, .slice A1 l1.length c1, .slice A2 l2.length c2, .agg #[.int .i64 a3_0, .slice A3_1 l3_1.length c3_1]] ?_; (with_reducible refine (spec_ProofOk.calls k a0 _ _ l1 _ _ l2 a3_0 _ _ l3_1 true _ ?side1 ?side2 ?side3 ?side4 ?side5 ?side6 A5.out).mono ?_); (case side1 => exact Kd.C_below (Kd.C_below HR1.out HB.out) lt_); (case side2 => exact HC1.out); (case side3 => exact Kd.C_below (Kd.C_below HR2.out HB.out) lt_); (case side4 => exact HC2.out); (case side5 => exact Kd.C_below (Kd.C_below HR3_1.out HB.out) lt_); (case side6 => exact HC3_1.out); rintro e w10 ⟨rfl, hb⟩; refine ⟨_, rfl, ?_⟩; replace BK468 := mk_ (blk_at BK468.out hb); replace HB := mk_ (below_step (at_ HB.out) hb); (try clear hb); have hcz11_0 := blk_cell BK468.out 0; have hcz11_1 := blk_cell BK468.out 1; have hfz11_0 := blk_frozen BK468.out 0; have hfz11_1 := blk_frozen BK468.out 1) | ((with_reducible refine gate_callee (f := 33) rfl ?_); refine gc_ 33 (some 18) Tryd.func33 #[.agg #[.int .i64 a3_0, .slice A3_1 l3_1.length c3_1], .int .i64 a3_0] ?_; (with_reducible refine (spec_l11Text.calls k a3_0 _ _ l3_1 a3_0 t470 _ ?side1 ?side2 A7.out).mono ?_); (case side1 => exact Kd.C_below (Kd.C_below HR3_1.out HB.out) lt_); (case side2 => exact HC3_1.out); rintro e w12 ⟨rfl, hb⟩; refine ⟨_, rfl, ?_⟩; replace HB := mk_ (below_step (at_ HB.out) hb); (try clear BK468); (try clear hb)))
 go_ret
 exact ⟨er_, at_ HB.out⟩
def impl_WorldOk.f (a0 : Int) (a1 : Int) : Option (Bool) := (impl_peopleOk.f a0).bind fun t471 => (if t471 = true then (if a1 ≥ 0 then (if 0 ≤ a0 then (some (decide (a1 < (shl .i64 1 a0)))) else (none)) else (some false)) else (some false))
set_option maxHeartbeats 8000000 in
set_option maxRecDepth 100000 in
theorem impl_WorldOk.calls (a0 : Int) (a1 : Int) (r : Bool) (w : World) (h : impl_WorldOk.f a0 a1 = some r) :
  Calls Tryd.prog 39 #[.int .i64 a0, .int .i64 a1] w fun e w' => e = .returned (.bool r) ∧ Drawn0 w w' := by
 unfold impl_WorldOk.f at h
 have H := h
 clear h
 revert H; refine bd_ fun t471 A3 H => ?_
 try dsimp only at H
 revert H; refine bi_ ?_ ?_ <;> rintro rfl H
 ·obtain rfl := Option.some.inj H
  go_enter Tryd.func39, Tryd.ntmps39
  go_wp2_with (first | ((with_reducible refine gate_callee (f := 64) rfl ?_); refine gc_ 64 (some 6) Tryd.func64 #[.int .i64 a0] ?_; (with_reducible refine (impl_peopleOk.calls a0 false _ A3.out).mono ?_); rintro e w' ⟨rfl, ⟨nd, rfl⟩⟩; refine ⟨_, rfl, ?_⟩))
  go_ret
  exact ⟨sm_, by repeat (first | exact Drawn0.refl _ | apply Drawn0.step)⟩
 revert H; refine ti_ (df_e fun c5b0 H => ?_) (dt_e fun c5b0 H => ?_)
 ·obtain rfl := Option.some.inj H
  go_enter Tryd.func39, Tryd.ntmps39
  go_wp2_with (first | ((with_reducible refine gate_callee (f := 64) rfl ?_); refine gc_ 64 (some 6) Tryd.func64 #[.int .i64 a0] ?_; (with_reducible refine (impl_peopleOk.calls a0 true _ A3.out).mono ?_); rintro e w' ⟨rfl, ⟨nd, rfl⟩⟩; refine ⟨_, rfl, ?_⟩))
  go_ret
  exact ⟨sm_, by repeat (first | exact Drawn0.refl _ | apply Drawn0.step)⟩
 revert H; refine g_ (et_ fun c6b0 c6b1 H => ?_)
 obtain ⟨ji7, hji7⟩ : ∃ j_ : Int, (shl .i64 1 a0) = j_ := ⟨_, rfl⟩
 first | rw [hji7] at H | simp only [hji7] at H
 (try rw [hji7] at A3)
 have hji7_ : (IntKind.i64.wrap (1 * 2 ^ min a0.toNat 64)) = ji7 := hji7
 have hji7z : a0 ≤ 64 → (IntKind.i64.wrap (1 * 2 ^ a0.toNat)) = ji7 := shl_small hji7
 have hji7u : (IntKind.i64.wrap (2 ^ min a0.toNat 64)) = ji7 := by have h_ := hji7_; rw [Int.one_mul] at h_; exact h_
 have hji7v : a0 ≤ 64 → (IntKind.i64.wrap (2 ^ a0.toNat)) = ji7 := fun hle_ => by have h_ := hji7z hle_; rw [Int.one_mul] at h_; exact h_
 have hji7y : (wrap64 (1 * 2 ^ min a0.toNat 64)) = ji7 := (i64_w _).symm.trans hji7_
 have hji7x : a0 ≤ 64 → (wrap64 (1 * 2 ^ a0.toNat)) = ji7 := fun h_ => (i64_w _).symm.trans (hji7z h_)
 obtain rfl := Option.some.inj H
 go_enter Tryd.func39, Tryd.ntmps39
 go_wp2_with (first | ((with_reducible refine gate_callee (f := 64) rfl ?_); refine gc_ 64 (some 6) Tryd.func64 #[.int .i64 a0] ?_; (with_reducible refine (impl_peopleOk.calls a0 true _ A3.out).mono ?_); rintro e w' ⟨rfl, ⟨nd, rfl⟩⟩; refine ⟨_, rfl, ?_⟩))
 go_ret
 exact ⟨by first | rfl | (simp; done) | (simp only [← hji7] <;> (first | rfl | simp)) | (simp [*]; done), by repeat (first | exact Drawn0.refl _ | apply Drawn0.step)⟩
def laws_alive.f  : Option (Bool) := (impl_WorldOk.f 1 1).bind fun t472 => (if t472 = true then ((impl_WorldOk.f 1 2).bind fun t473 => (some (!t473))) else (some false))
set_option maxHeartbeats 8000000 in
set_option maxRecDepth 100000 in
theorem laws_alive.calls  (r : Bool) (w : World) (h : laws_alive.f  = some r) :
  Calls Tryd.prog 11 #[] w fun e w' => e = .returned (.bool r) ∧ Drawn0 w w' := by
 have H : ((impl_WorldOk.f 1 1).bind fun t472 => (if t472 = true then ((impl_WorldOk.f 1 2).bind fun t473 => (some (!t473))) else (some false))) = some r := h
 clear h
 revert H; refine bd_ fun t472 A1 H => ?_
 try dsimp only at H
 revert H; refine ib_ ?_ ?_ <;> rintro rfl H
 ·replace H := Option.bind_eq_some_iff.mp H
  obtain ⟨t473, A30, H⟩ := H
  replace H : (some (!t473)) = some r := H
  have A3 := mk_ A30
  clear A30
  obtain rfl := Option.some.inj H
  go_enter Tryd.func11, Tryd.ntmps11
  go_wp2_with (first | ((with_reducible refine gate_callee (f := 39) rfl ?_); refine gc_ 39 (some 1) Tryd.func39 #[.int .i64 1, .int .i64 1] ?_; (with_reducible refine (impl_WorldOk.calls 1 1 true _ A1.out).mono ?_); rintro e w' ⟨rfl, ⟨nd, rfl⟩⟩; refine ⟨_, rfl, ?_⟩) | (go_at_call 39; (with_reducible refine (impl_WorldOk.calls 1 2 t473 _ A3.out).mono ?_); rintro e w' ⟨rfl, ⟨nd, rfl⟩⟩))
  go_ret
  exact ⟨sm_, by repeat (first | exact Drawn0.refl _ | apply Drawn0.step)⟩
 obtain rfl := Option.some.inj H
 go_enter Tryd.func11, Tryd.ntmps11
 go_wp2_with (first | ((with_reducible refine gate_callee (f := 39) rfl ?_); refine gc_ 39 (some 1) Tryd.func39 #[.int .i64 1, .int .i64 1] ?_; (with_reducible refine (impl_WorldOk.calls 1 1 false _ A1.out).mono ?_); rintro e w' ⟨rfl, ⟨nd, rfl⟩⟩; refine ⟨_, rfl, ?_⟩))
 go_ret
 exact ⟨sm_, by repeat (first | exact Drawn0.refl _ | apply Drawn0.step)⟩
def stringslite_HasPrefix.f (a0 : ByteArray) (a1 : ByteArray) : Option (Bool) := if (a0.size : Int) ≥ (a1.size : Int) then (if 0 ≤ (a1.size : Int) then (if (a1.size : Int) ≤ (a0.size : Int) then (some ((a0.extract 0 ((a1.size : Int) : Int).toNat).toList == a1.toList)) else (none)) else (none)) else (some false)
set_option maxHeartbeats 8000000 in
set_option maxRecDepth 100000 in
theorem stringslite_HasPrefix.calls (a0 : ByteArray) (a1 : ByteArray) (r : Bool) (w : World) (h : stringslite_HasPrefix.f a0 a1 = some r) :
  Calls Tryd.prog 95 #[.string a0, .string a1] w fun e w' => e = .returned (.bool r) ∧ Drawn0 w w' := by
 unfold stringslite_HasPrefix.f at h
 have H := h
 clear h
 revert H; refine ti_ (fun c3 H => ?_) fun c3 H => ?_
 ·have c3b0 : decide ((a1.size : Int) ≤ (a0.size : Int)) = false := decide_eq_false c3
  have c3b1 : decide (a1.size ≤ a0.size) = false := decide_eq_false (fun h => c3 (Int.ofNat_le.mpr h))
  clear c3
  obtain rfl := Option.some.inj H
  go_enter Tryd.func95, Tryd.ntmps95
  go_wp2
  go_ret
  exact ⟨sm_, by repeat (first | exact Drawn0.refl _ | apply Drawn0.step)⟩
 have c3b0 : decide ((a1.size : Int) ≤ (a0.size : Int)) = true := decide_eq_true c3
 have c3b1 : decide (a1.size ≤ a0.size) = true := decide_eq_true (Int.ofNat_le.mp c3)
 clear c3
 revert H; refine g_ (et_ fun c4b0 c4b1 => g_ (et_ fun c5b0 c5b1 H => ?_))
 obtain rfl := Option.some.inj H
 go_enter Tryd.func95, Tryd.ntmps95
 go_wp2
 go_ret
 exact ⟨sm_, by repeat (first | exact Drawn0.refl _ | apply Drawn0.step)⟩
def stringslite_CutPrefix.f (a0 : ByteArray) (a1 : ByteArray) : Option (ByteArray × Bool) := (stringslite_HasPrefix.f a0 a1).bind fun t474 => (if t474 = true then (if 0 ≤ (a1.size : Int) then (if (a1.size : Int) ≤ (a0.size : Int) then (some (a0.extract ((a1.size : Int) : Int).toNat a0.size, true)) else (none)) else (none)) else (some (a0, false)))
set_option maxHeartbeats 8000000 in
set_option maxRecDepth 100000 in
theorem stringslite_CutPrefix.calls (a0 : ByteArray) (a1 : ByteArray) (r1 : ByteArray) (r2 : Bool) (w : World) (h : stringslite_CutPrefix.f a0 a1 = some (r1, r2)) :
  Calls Tryd.prog 86 #[.string a0, .string a1] w fun e w' => e = .returned (.tuple #[.string r1, .bool r2]) ∧ Drawn0 w w' := by
 unfold stringslite_CutPrefix.f at h
 have H := h
 clear h
 revert H; refine bd_ fun t474 A3 H => ?_
 try dsimp only at H
 revert H; refine bi_ ?_ ?_ <;> rintro rfl H
 ·simp only [Option.some.injEq, Prod.mk.injEq] at H
  obtain ⟨rfl, rfl⟩ := H
  go_enter Tryd.func86, Tryd.ntmps86
  go_wp2_with (first | ((with_reducible refine gate_callee (f := 95) rfl ?_); refine gc_ 95 (some 8) Tryd.func95 #[.string a0, .string a1] ?_; (with_reducible refine (stringslite_HasPrefix.calls a0 a1 false _ A3.out).mono ?_); rintro e w' ⟨rfl, ⟨nd, rfl⟩⟩; refine ⟨_, rfl, ?_⟩))
  go_ret2
  exact ⟨sm_, by repeat (first | exact Drawn0.refl _ | apply Drawn0.step)⟩
 revert H; refine g_ (et_ fun c5b0 c5b1 => g_ (et_ fun c6b0 c6b1 H => ?_))
 simp only [Option.some.injEq, Prod.mk.injEq] at H
 obtain ⟨rfl, rfl⟩ := H
 go_enter Tryd.func86, Tryd.ntmps86
 go_wp2_with (first | ((with_reducible refine gate_callee (f := 95) rfl ?_); refine gc_ 95 (some 8) Tryd.func95 #[.string a0, .string a1] ?_; (with_reducible refine (stringslite_HasPrefix.calls a0 a1 true _ A3.out).mono ?_); rintro e w' ⟨rfl, ⟨nd, rfl⟩⟩; refine ⟨_, rfl, ?_⟩))
 go_ret2
 exact ⟨sm_, by repeat (first | exact Drawn0.refl _ | apply Drawn0.step)⟩
def strings_CutPrefix.f (a0 : ByteArray) (a1 : ByteArray) : Option (ByteArray × Bool) := (stringslite_CutPrefix.f a0 a1).bind fun bt475 => (some (bt475.1, bt475.2))
set_option maxHeartbeats 8000000 in
set_option maxRecDepth 100000 in
theorem strings_CutPrefix.calls (a0 : ByteArray) (a1 : ByteArray) (r1 : ByteArray) (r2 : Bool) (w : World) (h : strings_CutPrefix.f a0 a1 = some (r1, r2)) :
  Calls Tryd.prog 70 #[.string a0, .string a1] w fun e w' => e = .returned (.tuple #[.string r1, .bool r2]) ∧ Drawn0 w w' := by
 have H : ((stringslite_CutPrefix.f a0 a1).bind fun bt475 => (some (bt475.1, bt475.2))) = some (r1, r2) := h
 clear h
 replace H := Option.bind_eq_some_iff.mp H
 obtain ⟨⟨t475, t476⟩, A30, H⟩ := H
 replace H : (some (t475, t476)) = some (r1, r2) := H
 have A3 := mk_ A30
 clear A30
 simp only [Option.some.injEq, Prod.mk.injEq] at H
 obtain ⟨rfl, rfl⟩ := H
 go_enter Tryd.func70, Tryd.ntmps70
 go_wp2_with (first | ((with_reducible refine gate_callee (f := 86) rfl ?_); refine gc_ 86 (some 8) Tryd.func86 #[.string a0, .string a1] ?_; (with_reducible refine (stringslite_CutPrefix.calls a0 a1 t475 t476 _ A3.out).mono ?_); rintro e w' ⟨rfl, ⟨nd, rfl⟩⟩; refine ⟨_, rfl, ?_⟩))
 go_ret2
 exact ⟨sm_, by repeat (first | exact Drawn0.refl _ | apply Drawn0.step)⟩
-- NOT PRINTED: function 40 (impl_readCase)
end Go.Proofs.YtcaogllnbpmcgaaDoor.P

/- Go's functions come to just the answers of the Lean functions told here. -/
import Derived.Test.YtcaogllnbpmcgaaPx5
namespace Go.Proofs.Ytcaogllnbpmcgaa.P
open Go.RowKit Go.Proofs.YtcaogllnbpmcgaaW.PrintWords Go.Proofs.YtcaogllnbpmcgaaW.PrintLast Go.Proofs.YtcaogllnbpmcgaaW.PrintMore
attribute [local go_sem] max2_int min2_int max_two min_two max_three min_three max_four min_four
set_option linter.unusedVariables false
set_option linter.unusedSimpArgs false
mutual
def spec_l11Checks.j0 : Nat → Int → List (S38) → List (S47) → Int → List Int → Bool → Int → List (S93) → Int → Int → Int → Option (Int × Bool)
 | 0, _, _, _, _, _, _, _, _, _, _, _ => none
 | k + 1, x0, x1, x2, x4, x5, x54, x157000, x157001, x160000, x160001, x160002 => if x54 = true then (some (0, false)) else (spec_l11Checks.l0 k x0 x1 x2 x4 x5 1 0 x157000 x157001 x160000 x160001 x160002)
def spec_l11Checks.l0 : Nat → Int → List (S38) → List (S47) → Int → List Int → Int → Int → Int → List (S93) → Int → Int → Int → Option (Int × Bool)
 | 0, _, _, _, _, _, _, _, _, _, _, _, _ => none
 | k + 1, x0, x1, x2, x4, x5, x15, x16, x157000, x157001, x160000, x160001, x160002 => if x16 < 2 then (if x16 = 1 then (spec_l11Checks.j2 k x0 x1 x2 x4 x5 x15 x16 x160002 x157000 x157001 x160000 x160001 x160002) else (spec_l11Checks.j2 k x0 x1 x2 x4 x5 x15 x16 x160001 x157000 x157001 x160000 x160001 x160002)) else (some (x15, true))
def spec_l11Checks.j2 : Nat → Int → List (S38) → List (S47) → Int → List Int → Int → Int → Int → Int → List (S93) → Int → Int → Int → Option (Int × Bool)
 | 0, _, _, _, _, _, _, _, _, _, _, _, _, _ => none
 | k + 1, x0, x1, x2, x4, x5, x15, x16, x17, x157000, x157001, x160000, x160001, x160002 => if x17 ≥ 0 then (if x17 ≤ x4 then (spec_l11Checks.j3 k x0 x1 x2 x4 x5 x15 x16 x17 true x157000 x157001 x160000 x160001 x160002) else (spec_l11Checks.j3 k x0 x1 x2 x4 x5 x15 x16 x17 (decide (x17 ≥ (x157001.length : Int))) x157000 x157001 x160000 x160001 x160002)) else (spec_l11Checks.j3 k x0 x1 x2 x4 x5 x15 x16 x17 false x157000 x157001 x160000 x160001 x160002)
def spec_l11Checks.j3 : Nat → Int → List (S38) → List (S47) → Int → List Int → Int → Int → Int → Bool → Int → List (S93) → Int → Int → Int → Option (Int × Bool)
 | 0, _, _, _, _, _, _, _, _, _, _, _, _, _, _ => none
 | k + 1, x0, x1, x2, x4, x5, x15, x16, x17, x78, x157000, x157001, x160000, x160001, x160002 => if x78 = true then (some (0, false)) else ((some (([] : List Int) : List Int)).bind fun y162 => (if y162.length + x5.length < 17592186044416 then ((some (y162 ++ x5 : List Int)).bind fun y165 => (if 0 ≤ x160000 then (if x160000 < (y165.length : Int) then ((spec_l11Checks.f k x0 x1 x2 x157000 x157001 x17 (y165.set (x160000 : Int).toNat x16)).bind fun bt169 => (if bt169.2 = true then (spec_l11Checks.l0 k x0 x1 x2 x4 x5 (wrap64 (x15 + bt169.1)) (wrap64 (x16 + 1)) x157000 x157001 x160000 x160001 x160002) else (some (0, false)))) else (none)) else (none))) else (none)))
def spec_l11Checks.f : Nat → Int → List (S38) → List (S47) → Int → List (S93) → Int → List Int → Option (Int × Bool)
 | 0, _, _, _, _, _, _, _ => none
 | k + 1, a0, l1, l2, a3_0, l3_1, a4, l5 => if a4 < 0 then (if a4 ≥ (wrap64 ((-2) - (l1.length : Int))) then ((spec_l11Closes.f k a0 l1 l2 a4 l5).bind fun t157 => (some (0, t157))) else (some (0, false))) else (if 0 ≤ a4 then (if a4 < (l3_1.length : Int) then ((spec_l1In.f ((rd_T93 l3_1 a4).f0) 0 (wrap64 (a0 - 1))).bind fun t160 => (if t160 = true then (if 0 ≤ ((rd_T93 l3_1 a4).f0) then (if ((rd_T93 l3_1 a4).f0) < (l5.length : Int) then (spec_l11Checks.j0 k a0 l1 l2 a4 l5 (decide ((rd l5 ((rd_T93 l3_1 a4).f0)) ≥ 0)) a3_0 l3_1 ((rd_T93 l3_1 a4).f0) ((rd_T93 l3_1 a4).f1) ((rd_T93 l3_1 a4).f2)) else (none)) else (none)) else (spec_l11Checks.j0 k a0 l1 l2 a4 l5 true a3_0 l3_1 ((rd_T93 l3_1 a4).f0) ((rd_T93 l3_1 a4).f1) ((rd_T93 l3_1 a4).f2)))) else (none)) else (none))
end
set_option maxHeartbeats 8000000 in
set_option maxRecDepth 100000 in
theorem spec_l11Checks.calls (k : Nat) : ∀ (a0 : Int) (A1 : Option Addr) (c1 : Nat) (l1 : List (S38)) (A2 : Option Addr) (c2 : Nat) (l2 : List (S47)) (a3_0 : Int) (A3_1 : Option Addr) (c3_1 : Nat) (l3_1 : List (S93)) (a4 : Int) (A5 : Option Addr) (c5 : Nat) (l5 : List Int) (r1 : Int) (r2 : Bool) (w : World) (hr1 : Kd.C k38 w A1 l1.length l1) (hc1 : l1.length ≤ c1) (hr2 : Kd.C k47 w A2 l2.length l2) (hc2 : l2.length ≤ c2) (hr3_1 : Kd.C k93 w A3_1 l3_1.length l3_1) (hc3_1 : l3_1.length ≤ c3_1) (hr5 : Kd.C (Kd.int .i64) w A5 l5.length l5) (hc5 : l5.length ≤ c5) (h : spec_l11Checks.f k a0 l1 l2 a3_0 l3_1 a4 l5 = some (r1, r2)),
  Calls Try.prog 69 #[.int .i64 a0, .slice A1 l1.length c1, .slice A2 l2.length c2, .agg #[.int .i64 a3_0, .slice A3_1 l3_1.length c3_1], .int .i64 a4, .slice A5 l5.length c5] w fun e w' => e = .returned (.tuple #[.int .i64 r1, .bool r2]) ∧ Below w.heap.size w w' := by
 induction k using Nat.strongRecOn with
 | _ k ih =>
 intro a0 A1 c1 l1 A2 c2 l2 a3_0 A3_1 c3_1 l3_1 a4 A5 c5 l5 r1 r2 w hr1 hc1 hr2 hc2 hr3_1 hc3_1 hr5 hc5 h
 cases k with
 | zero => exact absurd h (by simp [spec_l11Checks.f])
 | succ k =>
 simp only [spec_l11Checks.f] at h
 have hu51 := Try.underlying51
 have hu93 := Try.underlying93
 have HR1 := mk_ hr1
 have HC1 := mk_ hc1
 clear hr1 hc1
 have HR2 := mk_ hr2
 have HC2 := mk_ hc2
 clear hr2 hc2
 have HR3_1 := mk_ hr3_1
 have HC3_1 := mk_ hc3_1
 clear hr3_1 hc3_1
 have HR5 := mk_ hr5
 have HC5 := mk_ hc5
 clear hr5 hc5
 have HB := mk_ (Below.refl w.heap.size w)
 have H : (if a4 < 0 then (if a4 ≥ (wrap64 ((-2) - (l1.length : Int))) then ((spec_l11Closes.f k a0 l1 l2 a4 l5).bind fun t157 => (some (0, t157))) else (some (0, false))) else (if 0 ≤ a4 then (if a4 < (l3_1.length : Int) then ((spec_l1In.f ((rd_T93 l3_1 a4).f0) 0 (wrap64 (a0 - 1))).bind fun t160 => (if t160 = true then (if 0 ≤ ((rd_T93 l3_1 a4).f0) then (if ((rd_T93 l3_1 a4).f0) < (l5.length : Int) then (spec_l11Checks.j0 k a0 l1 l2 a4 l5 (decide ((rd l5 ((rd_T93 l3_1 a4).f0)) ≥ 0)) a3_0 l3_1 ((rd_T93 l3_1 a4).f0) ((rd_T93 l3_1 a4).f1) ((rd_T93 l3_1 a4).f2)) else (none)) else (none)) else (spec_l11Checks.j0 k a0 l1 l2 a4 l5 true a3_0 l3_1 ((rd_T93 l3_1 a4).f0) ((rd_T93 l3_1 a4).f1) ((rd_T93 l3_1 a4).f2)))) else (none)) else (none))) = some (r1, r2) := h
 clear h
 by_cases c7 : a4 < 0
 ·rw [if_pos c7] at H
  have c7b0 : decide (a4 < 0) = true := decide_eq_true c7
  clear c7
  by_cases c8 : a4 ≥ (wrap64 ((-2) - (l1.length : Int)))
  rotate_left
  ·rw [if_neg c8] at H
   have c8b0 : decide ((wrap64 ((-2) - (l1.length : Int))) ≤ a4) = false := decide_eq_false c8
   clear c8
   simp only [Option.some.injEq, Prod.mk.injEq] at H
   obtain ⟨rfl, rfl⟩ := H
   go_enter Try.func69, Try.ntmps69
   go_wp2_with (first | ((with_reducible refine gate_dst (N := 9) rfl ?_); (try (refine gate_guard (by rfl) ?_; dsimp only)); refine bx_ 9 #[.int .i64 a3_0, .slice A3_1 l3_1.length c3_1] 51 ?_; intro gb156 hg w12 hbox hb; have GW156 := mk_ (gb_ hg HB.out); have GE156 := mk_ (gb_ hg HB.out); replace HB := mk_ (below_step (below_at HB.out) hb); clear hb hbox hg))
   go_ret2
   exact ⟨er_, at_ HB.out⟩
  rw [if_pos c8] at H
  have c8b0 : decide ((wrap64 ((-2) - (l1.length : Int))) ≤ a4) = true := decide_eq_true c8
  clear c8
  replace H := Option.bind_eq_some_iff.mp H
  obtain ⟨t157, A90, H⟩ := H
  replace H : (some (0, t157)) = some (r1, r2) := H
  have A9 := mk_ A90
  clear A90
  simp only [Option.some.injEq, Prod.mk.injEq] at H
  obtain ⟨rfl, rfl⟩ := H
  go_enter Try.func69, Try.ntmps69
  go_wp2_with (first | ((with_reducible refine gate_dst (N := 9) rfl ?_); (try (refine gate_guard (by rfl) ?_; dsimp only)); refine bx_ 9 #[.int .i64 a3_0, .slice A3_1 l3_1.length c3_1] 51 ?_; intro gb156 hg w10 hbox hb; have GW156 := mk_ (gb_ hg HB.out); have GE156 := mk_ (gb_ hg HB.out); replace HB := mk_ (below_step (below_at HB.out) hb); clear hb hbox hg) | (go_at_call 95; (with_reducible refine (spec_l11Closes.calls k a0 _ _ l1 _ _ l2 a4 _ _ l5 t157 _ ?side1 ?side2 ?side3 ?side4 ?side5 ?side6 A9.out).mono ?_); (case side1 => exact Kd.C_below (Kd.C_below HR1.out HB.out) lt_); (case side2 => exact HC1.out); (case side3 => exact Kd.C_below (Kd.C_below HR2.out HB.out) lt_); (case side4 => exact HC2.out); (case side5 => exact Kd.C_below (Kd.C_below HR5.out HB.out) lt_); (case side6 => exact HC5.out); rintro e w11 ⟨rfl, hb⟩; replace HB := mk_ (below_step (at_ HB.out) hb); (try clear BK156); (try clear hb)))
  go_ret2
  exact ⟨er_, at_ HB.out⟩
 rw [if_neg c7] at H
 have c7b0 : decide (a4 < 0) = false := decide_eq_false c7
 clear c7
 by_cases c13 : 0 ≤ a4
 rotate_left
 ·rw [if_neg c13] at H
  exact absurd H (by simp)
 rw [if_pos c13] at H
 have c13b0 : decide (0 ≤ a4) = true := decide_eq_true c13
 clear c13
 by_cases c14 : a4 < (l3_1.length : Int)
 rotate_left
 ·rw [if_neg c14] at H
  exact absurd H (by simp)
 rw [if_pos c14] at H
 have c14b0 : decide (a4 < (l3_1.length : Int)) = true := decide_eq_true c14
 clear c14
 have HC15 := mk_ H
 clear H
 go_enter Try.func69, Try.ntmps69
 go_upto_region 4 with (first | ((with_reducible refine gate_dst (N := 9) rfl ?_); (try (refine gate_guard (by rfl) ?_; dsimp only)); refine bx_ 9 #[.int .i64 a3_0, .slice A3_1 l3_1.length c3_1] 51 ?_; intro gb156 hg w16 hbox hb; have BK156 := mk_ (hbox); have GW156 := mk_ (gb_ hg HB.out); have GE156 := mk_ (gb_ hg HB.out); replace HB := mk_ (below_step (below_at HB.out) hb); clear hb hbox hg; have hcz17_0 := blk_cell BK156.out 0; have hcz17_1 := blk_cell BK156.out 1; have hfz17_0 := blk_frozen BK156.out 0; have hfz17_1 := blk_frozen BK156.out 1; have p158 : 0 ≤ (a4 : Int) := oa_; have q158 : a4 < (l3_1.length : Int) := oa_; obtain ⟨ad158, e158, hx158_0, hx158_1, hx158_2⟩ := at_T93 HR3_1.out a4 p158 q158; cases e158; replace hx158_0 := cel HB.out hx158_0; replace hx158_1 := cel HB.out hx158_1; replace hx158_2 := cel HB.out hx158_2; replace p158 := eq_true p158; replace q158 := eq_true q158) | ((with_reducible refine gate_dst (N := 14) rfl ?_); (try (refine gate_guard (by rfl) ?_; dsimp only)); refine bx_ 14 #[.int .i64 0, .int .i64 0, .int .i64 0] 93 ?_; intro gb159 hg w18 hbox hb; have BK159 := mk_ (hbox); have GW159 := mk_ ((by rw [hg]; exact (below_size (at_ HB.out)) : w.heap.size ≤ gb159)); have GE159 := mk_ ((by rw [hg]; exact (below_size (at_ HB.out)) : w.heap.size ≤ gb159)); replace HB := mk_ (below_step (at_ HB.out) hb); have NB156_159 := mk_ ((by rw [hg]; exact Nat.ne_of_lt (blk_lt (g := gb156) (o := .cells #[.int .i64 a3_0, .slice (some ad158) l3_1.length c3_1] 51 (0, 0)) (bk_ BK156.out)) : gb156 ≠ gb159)); have NB159_156 := mk_ ((by rw [hg]; exact Nat.ne_of_gt (blk_lt (g := gb156) (o := .cells #[.int .i64 a3_0, .slice (some ad158) l3_1.length c3_1] 51 (0, 0)) (bk_ BK156.out)) : gb159 ≠ gb156)); replace BK156 := mk_ (blk_at BK156.out hb); clear hb hbox hg; have hnb19 := NB159_156.out; have hnc19 := NB156_159.out; have hcz20_0 := blk_cell BK159.out 0; have hcz20_1 := blk_cell BK159.out 1; have hcz20_2 := blk_cell BK159.out 2; have hfz20_0 := blk_frozen BK159.out 0; have hfz20_1 := blk_frozen BK159.out 1; have hfz20_2 := blk_frozen BK159.out 2))
 (try simp only [Act.put, z0_, z1_, z2_])
 go_cut [54] (fun v54 wc => ∃ (kq : Nat) (x54_14 : Bool), v54 = .bool x54_14 ∧ Aside0 (spec_l11Checks.j0 kq a0 l1 l2 a4 l5 x54_14 a3_0 l3_1 ((rd_T93 l3_1 a4).f0) ((rd_T93 l3_1 a4).f1) ((rd_T93 l3_1 a4).f2) = some (r1, r2)) ∧ Aside0 (kq ≤ k) ∧ Aside0 (wc.heap[gb156]? = some (.cells #[.int .i64 a3_0, (.slice (some ad158) l3_1.length c3_1)] 51 (0, 0))) ∧ Aside0 (wc.heap[gb159]? = some (.cells #[.int .i64 ((rd_T93 l3_1 a4).f0), .int .i64 ((rd_T93 l3_1 a4).f1), .int .i64 ((rd_T93 l3_1 a4).f2)] 93 (0, 0))) ∧ Aside0 (Below w.heap.size w wc))
 case first =>
  have H := HC15.out
  clear HC15
  replace H := Option.bind_eq_some_iff.mp H
  obtain ⟨t160, A210, H⟩ := H
  try dsimp only at H
  have A21 := mk_ A210
  clear A210
  by_cases c22 : t160 = true
  rotate_left
  ·replace c22 := Bool.eq_false_iff.mpr c22
   subst c22
   rw [if_neg Bool.false_ne_true] at H
   have H' := mk_ H
   clear H
   have hnb27 := NB159_156.out
   have hnc27 := NB156_159.out
   have hcz28_0 := blk_cell BK159.out 0
   have hcz28_1 := blk_cell BK159.out 1
   have hcz28_2 := blk_cell BK159.out 2
   have hfz28_0 := blk_frozen BK159.out 0
   have hfz28_1 := blk_frozen BK159.out 1
   have hfz28_2 := blk_frozen BK159.out 2
   go_wp2_with (first | ((with_reducible refine gate_callee (f := 47) rfl ?_); refine goesL_ (some 45) rfl rfl Try.func47 (by kernel_rfl) rfl #[.int .i64 ((rd_T93 l3_1 a4).f0), .int .i64 0, .int .i64 (wrap64 (a0 - 1))] rfl gl_ ?_; (with_reducible refine (spec_l1In.calls ((rd_T93 l3_1 a4).f0) 0 (wrap64 (a0 - 1)) false _ A21.out).mono ?_); rintro e w' ⟨rfl, ⟨nd, rfl⟩⟩; refine ⟨_, rfl, ?_⟩))
   go_meet
   case rel => exact ⟨_, (true), sm_, H', ⟨by first | omega | exact Nat.le_refl _⟩, ⟨by refine bs_ ?_; refine blk_far ?_ NB156_159.out _; refine bs_ ?_; refine blk_far ?_ NB156_159.out _; refine bs_ ?_; refine blk_far ?_ NB156_159.out _; refine bs_ ?_; exact BK156.out⟩, ⟨by refine bs_ ?_; refine blk_put (cs := #[.int .i64 ((rd_T93 l3_1 a4).f0), .int .i64 ((rd_T93 l3_1 a4).f1), .int .i64 0]) ?_ 2 _ rfl; refine bs_ ?_; refine blk_put (cs := #[.int .i64 ((rd_T93 l3_1 a4).f0), .int .i64 0, .int .i64 0]) ?_ 1 _ rfl; refine bs_ ?_; refine blk_put (cs := #[.int .i64 0, .int .i64 0, .int .i64 0]) ?_ 0 _ rfl; refine bs_ ?_; exact BK159.out⟩, ⟨at_ HB.out⟩⟩
  subst c22
  rw [if_pos rfl] at H
  by_cases c23 : 0 ≤ ((rd_T93 l3_1 a4).f0)
  rotate_left
  ·rw [if_neg c23] at H
   exact absurd H (by simp)
  rw [if_pos c23] at H
  have c23b0 : decide (0 ≤ ((rd_T93 l3_1 a4).f0)) = true := decide_eq_true c23
  clear c23
  (first | rw [c23b0] | (simp only [i64_w, i32_w]; rw [c23b0]) | skip)
  by_cases c24 : ((rd_T93 l3_1 a4).f0) < (l5.length : Int)
  rotate_left
  ·rw [if_neg c24] at H
   exact absurd H (by simp)
  rw [if_pos c24] at H
  have c24b0 : decide (((rd_T93 l3_1 a4).f0) < (l5.length : Int)) = true := decide_eq_true c24
  clear c24
  have H' := mk_ H
  clear H
  have hnb25 := NB159_156.out
  have hnc25 := NB156_159.out
  have hcz26_0 := blk_cell BK159.out 0
  have hcz26_1 := blk_cell BK159.out 1
  have hcz26_2 := blk_cell BK159.out 2
  have hfz26_0 := blk_frozen BK159.out 0
  have hfz26_1 := blk_frozen BK159.out 1
  have hfz26_2 := blk_frozen BK159.out 2
  go_wp2_with (first | ((with_reducible refine gate_callee (f := 47) rfl ?_); refine goesL_ (some 45) rfl rfl Try.func47 (by kernel_rfl) rfl #[.int .i64 ((rd_T93 l3_1 a4).f0), .int .i64 0, .int .i64 (wrap64 (a0 - 1))] rfl gl_ ?_; (with_reducible refine (spec_l1In.calls ((rd_T93 l3_1 a4).f0) 0 (wrap64 (a0 - 1)) true _ A21.out).mono ?_); rintro e w' ⟨rfl, ⟨nd, rfl⟩⟩; refine ⟨_, rfl, ?_⟩; have p161 : 0 ≤ (((rd_T93 l3_1 a4).f0) : Int) := oa_; have q161 : ((rd_T93 l3_1 a4).f0) < (l5.length : Int) := oa_; obtain ⟨ad161, e161, hx161_0⟩ := Kd.at_int HR5.out ((rd_T93 l3_1 a4).f0) p161 q161; cases e161; have hn161_0 : ad161.block ≠ gb159 := Nat.ne_of_lt (Nat.lt_of_lt_of_le (by have := World.block_lt_of_cell? _ _ hx161_0; first | rwa [add_block] at this | exact this) GW159.out); have hn161_1 : ad161.block ≠ gb159 := Nat.ne_of_lt (Nat.lt_of_lt_of_le (by have := World.block_lt_of_cell? _ _ hx161_0; first | rwa [add_block] at this | exact this) GW159.out); have hn161_2 : ad161.block ≠ gb159 := Nat.ne_of_lt (Nat.lt_of_lt_of_le (by have := World.block_lt_of_cell? _ _ hx161_0; first | rwa [add_block] at this | exact this) GW159.out); replace hx161_0 := cel HB.out hx161_0; replace hx161_0 := (cell_far (p := ⟨gb159, 0, none⟩) (by first | (rw [add_block]; exact hn161_0) | (show (Addr.add _ _).block ≠ _; rw [add_block]; exact hn161_0) | exact hn161_0) (.int .i64 ((rd_T93 l3_1 a4).f0))).trans hx161_0; replace hx161_0 := (cell_far (p := ⟨gb159, 1, none⟩) (by first | (rw [add_block]; exact hn161_1) | (show (Addr.add _ _).block ≠ _; rw [add_block]; exact hn161_1) | exact hn161_1) (.int .i64 ((rd_T93 l3_1 a4).f1))).trans hx161_0; replace hx161_0 := (cell_far (p := ⟨gb159, 2, none⟩) (by first | (rw [add_block]; exact hn161_2) | (show (Addr.add _ _).block ≠ _; rw [add_block]; exact hn161_2) | exact hn161_2) (.int .i64 ((rd_T93 l3_1 a4).f2))).trans hx161_0; clear hn161_0; clear hn161_1; clear hn161_2; replace p161 := eq_true p161; replace q161 := eq_true q161))
  go_meet
  case rel => exact ⟨_, (decide ((rd l5 ((rd_T93 l3_1 a4).f0)) ≥ 0)), sm_, H', ⟨by first | omega | exact Nat.le_refl _⟩, ⟨by refine bs_ ?_; refine blk_far ?_ NB156_159.out _; refine bs_ ?_; refine blk_far ?_ NB156_159.out _; refine bs_ ?_; refine blk_far ?_ NB156_159.out _; refine bs_ ?_; exact BK156.out⟩, ⟨by refine bs_ ?_; refine blk_put (cs := #[.int .i64 ((rd_T93 l3_1 a4).f0), .int .i64 ((rd_T93 l3_1 a4).f1), .int .i64 0]) ?_ 2 _ rfl; refine bs_ ?_; refine blk_put (cs := #[.int .i64 ((rd_T93 l3_1 a4).f0), .int .i64 0, .int .i64 0]) ?_ 1 _ rfl; refine bs_ ?_; refine blk_put (cs := #[.int .i64 0, .int .i64 0, .int .i64 0]) ?_ 0 _ rfl; refine bs_ ?_; exact BK159.out⟩, ⟨at_ HB.out⟩⟩
 clear HC15
 try clear c1
 try clear p1
 try clear q1
 try clear hx1
 try clear c2
 try clear p2
 try clear c3
 try clear c4
 try clear c5
 try clear c6
 try clear p6
 try clear c7
 try clear c7b0
 try clear c8
 try clear c8b0
 try clear c13
 try clear c13b0
 try clear c14
 try clear c14b0
 try clear p15
 try clear q15
 try clear hx15
 try clear p16
 try clear q16
 try clear hx16
 try clear c19
 try clear c22
 try clear c23
 try clear c23b0
 try clear c24
 try clear c24b0
 try clear c25
 try clear c27
 try clear hcz17_0
 try clear hcz17_1
 try clear hcz20_0
 try clear hcz20_1
 try clear hcz20_2
 try clear hcz26_0
 try clear hcz26_1
 try clear hcz26_2
 try clear hcz28_0
 try clear hcz28_1
 try clear hcz28_2
 try clear hfz17_0
 try clear hfz17_1
 try clear hfz20_0
 try clear hfz20_1
 try clear hfz20_2
 try clear hfz26_0
 try clear hfz26_1
 try clear hfz26_2
 try clear hfz28_0
 try clear hfz28_1
 try clear hfz28_2
 try clear hx158_0
 try clear hx158_1
 try clear hx158_2
 try clear hx161_0
 try clear p158
 try clear p161
 try clear q158
 try clear q161
 obtain ⟨kq, x54_14, rfl, HA, HJ14, BK156, BK159, HB⟩ := hcut
 cases kq with
 | zero => exact absurd HA.out (by simp [spec_l11Checks.j0])
 | succ kj14 =>
  have H := HA.out
  clear HA
  simp only [spec_l11Checks.j0] at H
  by_cases c29 : x54_14 = true
  ·subst c29
   rw [if_pos rfl] at H
   simp only [Option.some.injEq, Prod.mk.injEq] at H
   obtain ⟨rfl, rfl⟩ := H
   go_wp2
   go_ret2
   exact ⟨er_, at_ HB.out⟩
  replace c29 := Bool.eq_false_iff.mpr c29
  subst c29
  rw [if_neg Bool.false_ne_true] at H
  have H' := mk_ H
  clear H
  go_wp2
  go_loopg [15, 16] kj14 (fun kq v15 v16 w' => ∃ (x15_2 : Int) (x16_2 : Int), v15 = .int .i64 x15_2 ∧ v16 = .int .i64 x16_2 ∧ Aside0 (spec_l11Checks.l0 kq a0 l1 l2 a4 l5 x15_2 x16_2 a3_0 l3_1 ((rd_T93 l3_1 a4).f0) ((rd_T93 l3_1 a4).f1) ((rd_T93 l3_1 a4).f2) = some (r1, r2)) ∧ Aside0 (kq ≤ kj14) ∧ Aside0 (w'.heap[gb156]? = some (.cells #[.int .i64 a3_0, (.slice (some ad158) l3_1.length c3_1)] 51 (0, 0))) ∧ Aside0 (w'.heap[gb159]? = some (.cells #[.int .i64 ((rd_T93 l3_1 a4).f0), .int .i64 ((rd_T93 l3_1 a4).f1), .int .i64 ((rd_T93 l3_1 a4).f2)] 93 (0, 0))) ∧ Aside0 (Below w.heap.size w w'))
  case atStart => exact ⟨(1), (0), sm_, sm_, H', ⟨Nat.le_refl _⟩, ⟨by refine bs_ ?_; exact BK156.out⟩, ⟨by refine bs_ ?_; exact BK159.out⟩, ⟨at_ HB.out⟩⟩
  clear H'
  try clear c1
  try clear p1
  try clear q1
  try clear hx1
  try clear c2
  try clear p2
  try clear c3
  try clear c4
  try clear c5
  try clear c6
  try clear p6
  try clear c7
  try clear c7b0
  try clear c8
  try clear c8b0
  try clear c13
  try clear c13b0
  try clear c14
  try clear c14b0
  try clear p15
  try clear q15
  try clear hx15
  try clear p16
  try clear q16
  try clear hx16
  try clear c19
  try clear c22
  try clear c23
  try clear c23b0
  try clear c24
  try clear c24b0
  try clear c25
  try clear c27
  try clear c29
  try clear hcz17_0
  try clear hcz17_1
  try clear hcz20_0
  try clear hcz20_1
  try clear hcz20_2
  try clear hcz26_0
  try clear hcz26_1
  try clear hcz26_2
  try clear hcz28_0
  try clear hcz28_1
  try clear hcz28_2
  try clear hfz17_0
  try clear hfz17_1
  try clear hfz20_0
  try clear hfz20_1
  try clear hfz20_2
  try clear hfz26_0
  try clear hfz26_1
  try clear hfz26_2
  try clear hfz28_0
  try clear hfz28_1
  try clear hfz28_2
  try clear hx158_0
  try clear hx158_1
  try clear hx158_2
  try clear hx161_0
  try clear p1
  try clear p15
  try clear p158
  try clear p16
  try clear p161
  try clear p2
  try clear p6
  try clear q1
  try clear q15
  try clear q158
  try clear q16
  try clear q161
  obtain ⟨x15_2, x16_2, rfl, rfl, HA, HK2, BK156, BK159, HB⟩ := hrel
  cases gk with
  | zero => exact absurd HA.out (by simp [spec_l11Checks.l0])
  | succ k2 =>
   have H := HA.out
   clear HA
   simp only [spec_l11Checks.l0] at H
   by_cases c30 : x16_2 < 2
   rotate_left
   ·rw [if_neg c30] at H
    have c30b0 : decide (x16_2 < 2) = false := decide_eq_false c30
    clear c30
    simp only [Option.some.injEq, Prod.mk.injEq] at H
    obtain ⟨rfl, rfl⟩ := H
    go_wp2
    go_ret2
    exact ⟨er_, at_ HB.out⟩
   rw [if_pos c30] at H
   have c30b0 : decide (x16_2 < 2) = true := decide_eq_true c30
   clear c30
   have HC31 := mk_ H
   clear H
   have hnb32 := NB159_156.out
   have hnc32 := NB156_159.out
   have hcz33_0 : wr.cell? ⟨gb159, 0, none⟩ = some (.int .i64 ((rd_T93 l3_1 a4).f0)) := (blk_cell BK159.out 0).trans rfl
   have hcz33_1 : wr.cell? ⟨gb159, 1, none⟩ = some (.int .i64 ((rd_T93 l3_1 a4).f1)) := (blk_cell BK159.out 1).trans rfl
   have hcz33_2 : wr.cell? ⟨gb159, 2, none⟩ = some (.int .i64 ((rd_T93 l3_1 a4).f2)) := (blk_cell BK159.out 2).trans rfl
   have hfz33_0 := blk_frozen BK159.out 0
   have hfz33_1 := blk_frozen BK159.out 1
   have hfz33_2 := blk_frozen BK159.out 2
   go_upto_if 62 with (fail)
   go_cut [17] (fun v17 wc => ∃ (kq : Nat) (x17_30 : Int), v17 = .int .i64 x17_30 ∧ Aside0 (spec_l11Checks.j2 kq a0 l1 l2 a4 l5 x15_2 x16_2 x17_30 a3_0 l3_1 ((rd_T93 l3_1 a4).f0) ((rd_T93 l3_1 a4).f1) ((rd_T93 l3_1 a4).f2) = some (r1, r2)) ∧ Aside0 (kq ≤ k2) ∧ Aside0 (wc.heap[gb156]? = some (.cells #[.int .i64 a3_0, (.slice (some ad158) l3_1.length c3_1)] 51 (0, 0))) ∧ Aside0 (wc.heap[gb159]? = some (.cells #[.int .i64 ((rd_T93 l3_1 a4).f0), .int .i64 ((rd_T93 l3_1 a4).f1), .int .i64 ((rd_T93 l3_1 a4).f2)] 93 (0, 0))) ∧ Aside0 (Below w.heap.size w wc))
   case first =>
    have H := HC31.out
    clear HC31
    by_cases c34 : x16_2 = 1
    rotate_left
    ·rw [if_neg c34] at H
     have c34b0 : (x16_2 == 1) = false := beq_eq_false_iff_ne.mpr c34
     have c34b1 : (x16_2 != 1) = true := bne_iff_ne.mpr c34
     (first | rw [c34b0] | (simp only [i64_w, i32_w]; rw [c34b0]) | skip)
     have H' := mk_ H
     clear H
     go_wp2
     go_meet
     case rel => exact ⟨_, (((rd_T93 l3_1 a4).f1)), sm_, H', ⟨by have := HJ14.out; have := HK2.out; first | omega | exact Nat.le_refl _⟩, ⟨by refine bs_ ?_; exact BK156.out⟩, ⟨by refine bs_ ?_; exact BK159.out⟩, ⟨at_ HB.out⟩⟩
    rw [if_pos c34] at H
    have c34b0 : (x16_2 == 1) = true := beq_iff_eq.mpr c34
    have c34b1 : (x16_2 != 1) = false := bne_eq_false_iff_eq.mpr c34
    clear c34
    (first | rw [c34b0] | (simp only [i64_w, i32_w]; rw [c34b0]) | skip)
    have H' := mk_ H
    clear H
    have hnb35 := NB159_156.out
    have hnc35 := NB156_159.out
    have hcz36_0 : wr.cell? ⟨gb159, 0, none⟩ = some (.int .i64 ((rd_T93 l3_1 a4).f0)) := (blk_cell BK159.out 0).trans rfl
    have hcz36_1 : wr.cell? ⟨gb159, 1, none⟩ = some (.int .i64 ((rd_T93 l3_1 a4).f1)) := (blk_cell BK159.out 1).trans rfl
    have hcz36_2 : wr.cell? ⟨gb159, 2, none⟩ = some (.int .i64 ((rd_T93 l3_1 a4).f2)) := (blk_cell BK159.out 2).trans rfl
    have hfz36_0 := blk_frozen BK159.out 0
    have hfz36_1 := blk_frozen BK159.out 1
    have hfz36_2 := blk_frozen BK159.out 2
    go_wp2
    go_meet
    case rel => exact ⟨_, (((rd_T93 l3_1 a4).f2)), sm_, H', ⟨by have := HJ14.out; have := HK2.out; first | omega | exact Nat.le_refl _⟩, ⟨by refine bs_ ?_; exact BK156.out⟩, ⟨by refine bs_ ?_; exact BK159.out⟩, ⟨at_ HB.out⟩⟩
   clear HC31
   try clear c1
   try clear p1
   try clear q1
   try clear hx1
   try clear c2
   try clear p2
   try clear c3
   try clear c4
   try clear c5
   try clear c6
   try clear p6
   try clear c7
   try clear c7b0
   try clear c8
   try clear c8b0
   try clear c13
   try clear c13b0
   try clear c14
   try clear c14b0
   try clear p15
   try clear q15
   try clear hx15
   try clear p16
   try clear q16
   try clear hx16
   try clear c19
   try clear c22
   try clear c23
   try clear c23b0
   try clear c24
   try clear c24b0
   try clear c25
   try clear c27
   try clear c29
   try clear c30
   try clear c30b0
   try clear c32
   try clear c34
   try clear c34b0
   try clear c34b1
   try clear c35
   try clear hcz17_0
   try clear hcz17_1
   try clear hcz20_0
   try clear hcz20_1
   try clear hcz20_2
   try clear hcz26_0
   try clear hcz26_1
   try clear hcz26_2
   try clear hcz28_0
   try clear hcz28_1
   try clear hcz28_2
   try clear hcz33_0
   try clear hcz33_1
   try clear hcz33_2
   try clear hcz36_0
   try clear hcz36_1
   try clear hcz36_2
   try clear hfz17_0
   try clear hfz17_1
   try clear hfz20_0
   try clear hfz20_1
   try clear hfz20_2
   try clear hfz26_0
   try clear hfz26_1
   try clear hfz26_2
   try clear hfz28_0
   try clear hfz28_1
   try clear hfz28_2
   try clear hfz33_0
   try clear hfz33_1
   try clear hfz33_2
   try clear hfz36_0
   try clear hfz36_1
   try clear hfz36_2
   try clear hx158_0
   try clear hx158_1
   try clear hx158_2
   try clear hx161_0
   try clear p1
   try clear p15
   try clear p158
   try clear p16
   try clear p161
   try clear p2
   try clear p6
   try clear q1
   try clear q15
   try clear q158
   try clear q16
   try clear q161
   obtain ⟨kq, x17_30, rfl, HA, HJ30, BK156, BK159, HB⟩ := hcut
   cases kq with
   | zero => exact absurd HA.out (by simp [spec_l11Checks.j2])
   | succ kj30 =>
    have H := HA.out
    clear HA
    simp only [spec_l11Checks.j2] at H
    have HC37 := mk_ H
    clear H
    go_upto_region 13 with (fail)
    go_cut [78] (fun v78 wc => ∃ (kq : Nat) (x78_36 : Bool), v78 = .bool x78_36 ∧ Aside0 (spec_l11Checks.j3 kq a0 l1 l2 a4 l5 x15_2 x16_2 x17_30 x78_36 a3_0 l3_1 ((rd_T93 l3_1 a4).f0) ((rd_T93 l3_1 a4).f1) ((rd_T93 l3_1 a4).f2) = some (r1, r2)) ∧ Aside0 (kq ≤ kj30) ∧ Aside0 (wc.heap[gb156]? = some (.cells #[.int .i64 a3_0, (.slice (some ad158) l3_1.length c3_1)] 51 (0, 0))) ∧ Aside0 (wc.heap[gb159]? = some (.cells #[.int .i64 ((rd_T93 l3_1 a4).f0), .int .i64 ((rd_T93 l3_1 a4).f1), .int .i64 ((rd_T93 l3_1 a4).f2)] 93 (0, 0))) ∧ Aside0 (Below w.heap.size w wc))
    case first =>
     have H := HC37.out
     clear HC37
     by_cases c38 : x17_30 ≥ 0
     rotate_left
     ·rw [if_neg c38] at H
      have c38b0 : decide (0 ≤ x17_30) = false := decide_eq_false c38
      clear c38
      (first | rw [c38b0] | (simp only [i64_w, i32_w]; rw [c38b0]) | skip)
      have H' := mk_ H
      clear H
      go_wp2
      go_meet
      case rel => exact ⟨_, (false), sm_, H', ⟨by have := HJ14.out; have := HK2.out; have := HJ30.out; first | omega | exact Nat.le_refl _⟩, ⟨by refine bs_ ?_; exact BK156.out⟩, ⟨by refine bs_ ?_; exact BK159.out⟩, ⟨at_ HB.out⟩⟩
     rw [if_pos c38] at H
     have c38b0 : decide (0 ≤ x17_30) = true := decide_eq_true c38
     clear c38
     (first | rw [c38b0] | (simp only [i64_w, i32_w]; rw [c38b0]) | skip)
     by_cases c39 : x17_30 ≤ a4
     ·rw [if_pos c39] at H
      have c39b0 : decide (x17_30 ≤ a4) = true := decide_eq_true c39
      clear c39
      have H' := mk_ H
      clear H
      go_wp2
      go_meet
      case rel => exact ⟨_, (true), sm_, H', ⟨by have := HJ14.out; have := HK2.out; have := HJ30.out; first | omega | exact Nat.le_refl _⟩, ⟨by refine bs_ ?_; exact BK156.out⟩, ⟨by refine bs_ ?_; exact BK159.out⟩, ⟨at_ HB.out⟩⟩
     rw [if_neg c39] at H
     have c39b0 : decide (x17_30 ≤ a4) = false := decide_eq_false c39
     clear c39
     have H' := mk_ H
     clear H
     have hnb40 := NB156_159.out
     have hnc40 := NB159_156.out
     have hcz41_0 : wc.cell? ⟨gb156, 0, none⟩ = some (.int .i64 a3_0) := (blk_cell BK156.out 0).trans rfl
     have hcz41_1 : wc.cell? ⟨gb156, 1, none⟩ = some (.slice (some ad158) l3_1.length c3_1) := (blk_cell BK156.out 1).trans rfl
     have hfz41_0 := blk_frozen BK156.out 0
     have hfz41_1 := blk_frozen BK156.out 1
     go_wp2
     go_meet
     case rel => exact ⟨_, (decide (x17_30 ≥ (l3_1.length : Int))), sm_, H', ⟨by have := HJ14.out; have := HK2.out; have := HJ30.out; first | omega | exact Nat.le_refl _⟩, ⟨by refine bs_ ?_; exact BK156.out⟩, ⟨by refine bs_ ?_; exact BK159.out⟩, ⟨at_ HB.out⟩⟩
    clear HC37
    try clear c1
    try clear p1
    try clear q1
    try clear hx1
    try clear c2
    try clear p2
    try clear c3
    try clear c4
    try clear c5
    try clear c6
    try clear p6
    try clear c7
    try clear c7b0
    try clear c8
    try clear c8b0
    try clear c13
    try clear c13b0
    try clear c14
    try clear c14b0
    try clear p15
    try clear q15
    try clear hx15
    try clear p16
    try clear q16
    try clear hx16
    try clear c19
    try clear c22
    try clear c23
    try clear c23b0
    try clear c24
    try clear c24b0
    try clear c25
    try clear c27
    try clear c29
    try clear c30
    try clear c30b0
    try clear c32
    try clear c34
    try clear c34b0
    try clear c34b1
    try clear c35
    try clear c38
    try clear c38b0
    try clear c39
    try clear c39b0
    try clear c40
    try clear hcz17_0
    try clear hcz17_1
    try clear hcz20_0
    try clear hcz20_1
    try clear hcz20_2
    try clear hcz26_0
    try clear hcz26_1
    try clear hcz26_2
    try clear hcz28_0
    try clear hcz28_1
    try clear hcz28_2
    try clear hcz33_0
    try clear hcz33_1
    try clear hcz33_2
    try clear hcz36_0
    try clear hcz36_1
    try clear hcz36_2
    try clear hcz41_0
    try clear hcz41_1
    try clear hfz17_0
    try clear hfz17_1
    try clear hfz20_0
    try clear hfz20_1
    try clear hfz20_2
    try clear hfz26_0
    try clear hfz26_1
    try clear hfz26_2
    try clear hfz28_0
    try clear hfz28_1
    try clear hfz28_2
    try clear hfz33_0
    try clear hfz33_1
    try clear hfz33_2
    try clear hfz36_0
    try clear hfz36_1
    try clear hfz36_2
    try clear hfz41_0
    try clear hfz41_1
    try clear hx158_0
    try clear hx158_1
    try clear hx158_2
    try clear hx161_0
    try clear p1
    try clear p15
    try clear p158
    try clear p16
    try clear p161
    try clear p2
    try clear p6
    try clear q1
    try clear q15
    try clear q158
    try clear q16
    try clear q161
    obtain ⟨kq, x78_36, rfl, HA, HJ36, BK156, BK159, HB⟩ := hcut
    cases kq with
    | zero => exact absurd HA.out (by simp [spec_l11Checks.j3])
    | succ kj36 =>
     have H := HA.out
     clear HA
     simp only [spec_l11Checks.j3] at H
     by_cases c42 : x78_36 = true
     ·subst c42
      rw [if_pos rfl] at H
      simp only [Option.some.injEq, Prod.mk.injEq] at H
      obtain ⟨rfl, rfl⟩ := H
      go_wp2
      go_ret2
      exact ⟨er_, at_ HB.out⟩
     replace c42 := Bool.eq_false_iff.mpr c42
     subst c42
     rw [if_neg Bool.false_ne_true] at H
     obtain ⟨y162, hy162⟩ : ∃ y_ : List Int, y_ = (([] : List Int)) := ⟨_, rfl⟩
     replace H : (if y162.length + l5.length < 17592186044416 then ((some (y162 ++ l5 : List Int)).bind fun y165 => (if 0 ≤ ((rd_T93 l3_1 a4).f0) then (if ((rd_T93 l3_1 a4).f0) < (y165.length : Int) then ((spec_l11Checks.f kj36 a0 l1 l2 a3_0 l3_1 x17_30 (y165.set (((rd_T93 l3_1 a4).f0) : Int).toNat x16_2)).bind fun bt169 => (if bt169.2 = true then (spec_l11Checks.l0 kj36 a0 l1 l2 a4 l5 (wrap64 (x15_2 + bt169.1)) (wrap64 (x16_2 + 1)) a3_0 l3_1 ((rd_T93 l3_1 a4).f0) ((rd_T93 l3_1 a4).f1) ((rd_T93 l3_1 a4).f2)) else (some (0, false)))) else (none)) else (none))) else (none)) = some (r1, r2) := by first | (rw [hy162]; exact H) | exact H
     have Ny162 := mk_ hy162
     clear hy162
     by_cases c43 : y162.length + l5.length < 17592186044416
     rotate_left
     ·rw [if_neg c43] at H
      exact absurd H (by simp)
     rw [if_pos c43] at H
     have LMc43 := mk_ c43
     clear c43
     obtain ⟨y165, hy165⟩ : ∃ y_ : List Int, y_ = (y162 ++ l5) := ⟨_, rfl⟩
     first | (replace H := bn_ hy165 H; try dsimp only at H) | rw [← hy165] at H
     have Ny165 := mk_ hy165
     clear hy165
     by_cases c44 : 0 ≤ ((rd_T93 l3_1 a4).f0)
     rotate_left
     ·rw [if_neg c44] at H
      exact absurd H (by simp)
     rw [if_pos c44] at H
     have c44b0 : decide (0 ≤ ((rd_T93 l3_1 a4).f0)) = true := decide_eq_true c44
     clear c44
     by_cases c45 : ((rd_T93 l3_1 a4).f0) < (y165.length : Int)
     rotate_left
     ·rw [if_neg c45] at H
      exact absurd H (by simp)
     rw [if_pos c45] at H
     have c45b0 : decide (((rd_T93 l3_1 a4).f0) < (y165.length : Int)) = true := decide_eq_true c45
     clear c45
     obtain ⟨y168, hy168⟩ : ∃ y_ : List Int, y_ = (y165.set (((rd_T93 l3_1 a4).f0) : Int).toNat x16_2) := ⟨_, rfl⟩
     first | (replace H := bn_ hy168 H; try dsimp only at H) | rw [← hy168] at H
     have Ny168 := mk_ hy168
     clear hy168
     replace H := Option.bind_eq_some_iff.mp H
     obtain ⟨⟨t169, t170⟩, A470, H⟩ := H
     try dsimp only at H
     have A47 := mk_ A470
     clear A470
     by_cases c48 : t170 = true
     rotate_left
     ·replace c48 := Bool.eq_false_iff.mpr c48
      subst c48
      rw [if_neg Bool.false_ne_true] at H
      simp only [Option.some.injEq, Prod.mk.injEq] at H
      obtain ⟨rfl, rfl⟩ := H
      go_wp2_with (first | ((with_reducible refine gate_dst (N := 79) rfl ?_); (try (refine gate_guard (by rfl) ?_; dsimp only)); refine Kd.R_lit (Kd.int .i64) _ 3 ?hg (N := 79) ?hd (xs := ([] : List Int)) (inner := []) (ok := fun _ => True) (okp := fun _ => True) ?hr ?hp (fun _ hk => hk) trivial (Below.refl _ _) (Nat.le_refl _) (by simp) ?_; (case hd => rfl); (case hg => rfl); (case hr => first | (go_simp; done) | (go_simp; rfl)); (case hp => exact (Reps.none _ _)); intro v163 w58 ho59 hb hg_ hnew_; clear hg_ hnew_; (first | rw [← Ny162.out] at ho59 | (simp only [Int.reduceToNat] at ho59; rw [← Ny162.out] at ho59)); have HO164 := mk_ (Kd.R_lower ho59 (below_size (at_ HB.out))); replace BK156 := mk_ (blk_at BK156.out hb); replace BK159 := mk_ (blk_at BK159.out hb); replace HB := mk_ (below_step (at_ HB.out) hb); clear hb ho59) | ((with_reducible refine gate_builtin (b := .append) (xs := #[.tmp 79, .tmp 80]) rfl ?_); (try (refine gate_guard (by rfl) ?_; dsimp only)); at_builtin; refine Kd.R_append_rows (Kd.int .i64) (w0 := w) w.heap.size rfl (.tmp 79) (.tmp 80) 42 3 (.int .i64 0) 8 rfl Try.underlying42 info3 rfl (by decide) (by omega) v163 y162 l5 _ _ _ (fun _ => True) (fun _ => False) rfl rfl ?aO ?aR (fun _ _ h => h) (fun _ h => h.elim) ?aF ?aB ?aS ?aL ?_; (case aR => exact Kd.C_below (Kd.C_below HR5.out HB.out) lt_); (case aB => exact (at_ HB.out)); (case aF => exact (fun _ _ => trivial)); (case aO => exact (Kd.R_below HO164.out lt_)); (case aS => exact (below_size (at_ HB.out))); (case aL => have := LMc43.out; omega); intro v166 w60 ho hb hg hat; rw [← Ny165.out] at ho; replace BK156 := mk_ (blk_grown (g := gb156) (o := .cells #[.int .i64 a3_0, .slice (some ad158) l3_1.length c3_1] 51 (0, 0)) (bk_ BK156.out) hg (Kd.R_ne HO164.out BK156.out (by decide))); replace BK159 := mk_ (blk_grown (g := gb159) (o := .cells #[.int .i64 ((rd_T93 l3_1 a4).f0), .int .i64 ((rd_T93 l3_1 a4).f1), .int .i64 ((rd_T93 l3_1 a4).f2)] 93 (0, 0)) (bk_ BK159.out) hg (Kd.R_ne HO164.out BK159.out (by decide))); replace HB := mk_ (hb); have HO167 := mk_ (ho); (try clear HO164); clear ho hb hg hat; have hnb61 := NB159_156.out; have hnc61 := NB156_159.out; have hcz62_0 := blk_cell BK159.out 0; have hcz62_1 := blk_cell BK159.out 1; have hcz62_2 := blk_cell BK159.out 2; have hfz62_0 := blk_frozen BK159.out 0; have hfz62_1 := blk_frozen BK159.out 1; have hfz62_2 := blk_frozen BK159.out 2; have p46 : 0 ≤ (((rd_T93 l3_1 a4).f0) : Int) := oa_; have q46 : (((rd_T93 l3_1 a4).f0) : Int) < ((y165.length : Int) : Int) := oa_; obtain ⟨go46, co46, eo46, gb46, gl46, cl46, HG46⟩ := Kd.R_form HO167.out (by omega); (first | cases eo46 | (injection eo46 with ea_ en_ ec_; (first | subst ea_ | (injection ea_ with ea_; subst ea_)); subst ec_; clear en_)); have GB46 := mk_ gb46; have GG46 := mk_ HG46; clear gb46 gl46 HG46; obtain ⟨hx46_0, hf46_0⟩ := Kd.R_celln 0 HO167.out (((rd_T93 l3_1 a4).f0) : Int) p46 q46; replace p46 := eq_true p46; replace q46 := eq_true q46; obtain ⟨hy63_, hz63_⟩ := Kd.R_celln 0 HO167.out (((rd_T93 l3_1 a4).f0) : Int) (oa_) (oa_); have HP63 := Kd.R_putg HO167.out (((rd_T93 l3_1 a4).f0) : Int) x16_2) | ((with_reducible refine gate_store (t := 3) (p := 86) rfl ?_); refine store_event (t := 3) (p := 86) (v := ?vo_w64) (w1 := (w60.setCell ⟨go46, (((rd_T93 l3_1 a4).f0) : Int).toNat, none⟩ (.int .i64 x16_2))) ?hg ?ho ?hn ?hr ?_; (case ho => rfl); (case hg => rfl); (case hn => rfl); (case hr => first | (go_simp; done) | (go_simp; rfl)); intro w64 hw; have hg : w60.grownBy w64 (some go46) := (by rw [hw]; exact HP63.2); have hp_ : Kd.R (Kd.int .i64) 3 w64 w.heap.size (fun _ => True) (.slice (some ⟨go46, 0, none⟩) y165.length co46) y168 := (by rw [hw, Ny168.out]; exact HP63.1); clear HP63; replace BK156 := mk_ (blk_grown (g := gb156) (o := .cells #[.int .i64 a3_0, .slice (some ad158) l3_1.length c3_1] 51 (0, 0)) (bk_ BK156.out) hg (Kd.R_ne HO167.out BK156.out (by decide))); replace HO167 := mk_ (hp_); replace HB := mk_ ((by rw [hw]; exact below_set (HB.out) GB46.out : Below w.heap.size w w64)); (try clear BK159); clear hg hw hp_; have hcz65_0 := blk_cell BK156.out 0; have hcz65_1 := blk_cell BK156.out 1; have hfz65_0 := blk_frozen BK156.out 0; have hfz65_1 := blk_frozen BK156.out 1) | ((with_reducible refine gate_callee (f := 69) rfl ?_); refine goesL_ (some 94) rfl rfl Try.func69 (by kernel_rfl) rfl #[.int .i64 a0, .slice A1 l1.length c1, .slice A2 l2.length c2, .agg #[.int .i64 a3_0, .slice (some ad158) l3_1.length c3_1], .int .i64 x17_30, .slice (some ⟨go46, 0, none⟩) y168.length co46] rfl (by (try simp only [List.map_toArray, List.map_cons, List.map_nil]); first | done | (rw [show y168.length = y165.length from (Kd.R_reads' HO167.out).1.symm] <;> rfl) | rfl | (simp only [List.length_drop, List.length_take]; rfl)) ?_; (with_reducible refine (ih kj36 (by have := HJ14.out; have := HK2.out; have := HJ30.out; have := HJ36.out; omega) a0 _ _ l1 _ _ l2 a3_0 _ _ l3_1 x17_30 _ _ y168 t169 false _ ?side1 ?side2 ?side3 ?side4 ?side5 ?side6 ?side7 ?side8 A47.out).mono ?_); (case side1 => exact Kd.C_below (Kd.C_below HR1.out HB.out) lt_); (case side2 => exact HC1.out); (case side3 => exact Kd.C_below (Kd.C_below HR2.out HB.out) lt_); (case side4 => exact HC2.out); (case side5 => exact Kd.C_below (Kd.C_below HR3_1.out HB.out) lt_); (case side6 => exact HC3_1.out); (case side7 => exact Kd.C_below (Kd.R_reads' HO167.out).2.2 lt_); (case side8 => rw [show y168.length = y165.length from (Kd.R_reads' HO167.out).1.symm]; exact (Kd.R_reads' HO167.out).2.1); rintro e w66 ⟨rfl, hb⟩; refine ⟨_, rfl, ?_⟩; replace HB := mk_ (below_step (at_ HB.out) hb); (try clear HO167 BK156 BK159); (try clear hb)))
      go_ret2
      exact ⟨er_, at_ HB.out⟩
     subst c48
     rw [if_pos rfl] at H
     have H' := mk_ H
     clear H
     go_wp2_with (first | ((with_reducible refine gate_dst (N := 79) rfl ?_); (try (refine gate_guard (by rfl) ?_; dsimp only)); refine Kd.R_lit (Kd.int .i64) _ 3 ?hg (N := 79) ?hd (xs := ([] : List Int)) (inner := []) (ok := fun _ => True) (okp := fun _ => True) ?hr ?hp (fun _ hk => hk) trivial (Below.refl _ _) (Nat.le_refl _) (by simp) ?_; (case hd => rfl); (case hg => rfl); (case hr => first | (go_simp; done) | (go_simp; rfl)); (case hp => exact (Reps.none _ _)); intro v163 w49 ho50 hb hg_ hnew_; clear hg_ hnew_; (first | rw [← Ny162.out] at ho50 | (simp only [Int.reduceToNat] at ho50; rw [← Ny162.out] at ho50)); have HO164 := mk_ (Kd.R_lower ho50 (below_size (at_ HB.out))); replace BK156 := mk_ (blk_at BK156.out hb); replace BK159 := mk_ (blk_at BK159.out hb); replace HB := mk_ (below_step (at_ HB.out) hb); clear hb ho50) | ((with_reducible refine gate_builtin (b := .append) (xs := #[.tmp 79, .tmp 80]) rfl ?_); (try (refine gate_guard (by rfl) ?_; dsimp only)); at_builtin; refine Kd.R_append_rows (Kd.int .i64) (w0 := w) w.heap.size rfl (.tmp 79) (.tmp 80) 42 3 (.int .i64 0) 8 rfl Try.underlying42 info3 rfl (by decide) (by omega) v163 y162 l5 _ _ _ (fun _ => True) (fun _ => False) rfl rfl ?aO ?aR (fun _ _ h => h) (fun _ h => h.elim) ?aF ?aB ?aS ?aL ?_; (case aR => exact Kd.C_below (Kd.C_below HR5.out HB.out) lt_); (case aB => exact (at_ HB.out)); (case aF => exact (fun _ _ => trivial)); (case aO => exact (Kd.R_below HO164.out lt_)); (case aS => exact (below_size (at_ HB.out))); (case aL => have := LMc43.out; omega); intro v166 w51 ho hb hg hat; rw [← Ny165.out] at ho; replace BK156 := mk_ (blk_grown (g := gb156) (o := .cells #[.int .i64 a3_0, .slice (some ad158) l3_1.length c3_1] 51 (0, 0)) (bk_ BK156.out) hg (Kd.R_ne HO164.out BK156.out (by decide))); replace BK159 := mk_ (blk_grown (g := gb159) (o := .cells #[.int .i64 ((rd_T93 l3_1 a4).f0), .int .i64 ((rd_T93 l3_1 a4).f1), .int .i64 ((rd_T93 l3_1 a4).f2)] 93 (0, 0)) (bk_ BK159.out) hg (Kd.R_ne HO164.out BK159.out (by decide))); replace HB := mk_ (hb); have HO167 := mk_ (ho); (try clear HO164); clear ho hb hg hat; have hnb52 := NB159_156.out; have hnc52 := NB156_159.out; have hcz53_0 := blk_cell BK159.out 0; have hcz53_1 := blk_cell BK159.out 1; have hcz53_2 := blk_cell BK159.out 2; have hfz53_0 := blk_frozen BK159.out 0; have hfz53_1 := blk_frozen BK159.out 1; have hfz53_2 := blk_frozen BK159.out 2; have p46 : 0 ≤ (((rd_T93 l3_1 a4).f0) : Int) := oa_; have q46 : (((rd_T93 l3_1 a4).f0) : Int) < ((y165.length : Int) : Int) := oa_; obtain ⟨go46, co46, eo46, gb46, gl46, cl46, HG46⟩ := Kd.R_form HO167.out (by omega); (first | cases eo46 | (injection eo46 with ea_ en_ ec_; (first | subst ea_ | (injection ea_ with ea_; subst ea_)); subst ec_; clear en_)); have GB46 := mk_ gb46; have GG46 := mk_ HG46; clear gb46 gl46 HG46; obtain ⟨hx46_0, hf46_0⟩ := Kd.R_celln 0 HO167.out (((rd_T93 l3_1 a4).f0) : Int) p46 q46; replace p46 := eq_true p46; replace q46 := eq_true q46; obtain ⟨hy54_, hz54_⟩ := Kd.R_celln 0 HO167.out (((rd_T93 l3_1 a4).f0) : Int) (oa_) (oa_); have HP54 := Kd.R_putg HO167.out (((rd_T93 l3_1 a4).f0) : Int) x16_2) | ((with_reducible refine gate_store (t := 3) (p := 86) rfl ?_); refine store_event (t := 3) (p := 86) (v := ?vo_w55) (w1 := (w51.setCell ⟨go46, (((rd_T93 l3_1 a4).f0) : Int).toNat, none⟩ (.int .i64 x16_2))) ?hg ?ho ?hn ?hr ?_; (case ho => rfl); (case hg => rfl); (case hn => rfl); (case hr => first | (go_simp; done) | (go_simp; rfl)); intro w55 hw; have hg : w51.grownBy w55 (some go46) := (by rw [hw]; exact HP54.2); have hp_ : Kd.R (Kd.int .i64) 3 w55 w.heap.size (fun _ => True) (.slice (some ⟨go46, 0, none⟩) y165.length co46) y168 := (by rw [hw, Ny168.out]; exact HP54.1); clear HP54; replace BK156 := mk_ (blk_grown (g := gb156) (o := .cells #[.int .i64 a3_0, .slice (some ad158) l3_1.length c3_1] 51 (0, 0)) (bk_ BK156.out) hg (Kd.R_ne HO167.out BK156.out (by decide))); replace BK159 := mk_ (blk_grown (g := gb159) (o := .cells #[.int .i64 ((rd_T93 l3_1 a4).f0), .int .i64 ((rd_T93 l3_1 a4).f1), .int .i64 ((rd_T93 l3_1 a4).f2)] 93 (0, 0)) (bk_ BK159.out) hg (Kd.R_ne HO167.out BK159.out (by decide))); replace HO167 := mk_ (hp_); replace HB := mk_ ((by rw [hw]; exact below_set (HB.out) GB46.out : Below w.heap.size w w55)); clear hg hw hp_; have hcz56_0 := blk_cell BK156.out 0; have hcz56_1 := blk_cell BK156.out 1; have hfz56_0 := blk_frozen BK156.out 0; have hfz56_1 := blk_frozen BK156.out 1) | ((with_reducible refine gate_callee (f := 69) rfl ?_); refine goesL_ (some 94) rfl rfl Try.func69 (by kernel_rfl) rfl #[.int .i64 a0, .slice A1 l1.length c1, .slice A2 l2.length c2, .agg #[.int .i64 a3_0, .slice (some ad158) l3_1.length c3_1], .int .i64 x17_30, .slice (some ⟨go46, 0, none⟩) y168.length co46] rfl (by (try simp only [List.map_toArray, List.map_cons, List.map_nil]); first | done | (rw [show y168.length = y165.length from (Kd.R_reads' HO167.out).1.symm] <;> rfl) | rfl | (simp only [List.length_drop, List.length_take]; rfl)) ?_; (with_reducible refine (ih kj36 (by have := HJ14.out; have := HK2.out; have := HJ30.out; have := HJ36.out; omega) a0 _ _ l1 _ _ l2 a3_0 _ _ l3_1 x17_30 _ _ y168 t169 true _ ?side1 ?side2 ?side3 ?side4 ?side5 ?side6 ?side7 ?side8 A47.out).mono ?_); (case side1 => exact Kd.C_below (Kd.C_below HR1.out HB.out) lt_); (case side2 => exact HC1.out); (case side3 => exact Kd.C_below (Kd.C_below HR2.out HB.out) lt_); (case side4 => exact HC2.out); (case side5 => exact Kd.C_below (Kd.C_below HR3_1.out HB.out) lt_); (case side6 => exact HC3_1.out); (case side7 => exact Kd.C_below (Kd.R_reads' HO167.out).2.2 lt_); (case side8 => rw [show y168.length = y165.length from (Kd.R_reads' HO167.out).1.symm]; exact (Kd.R_reads' HO167.out).2.1); rintro e w57 ⟨rfl, hb⟩; refine ⟨_, rfl, ?_⟩; replace BK156 := mk_ (blk_at BK156.out hb); replace BK159 := mk_ (blk_at BK159.out hb); replace HB := mk_ (below_step (at_ HB.out) hb); (try clear HO167); (try clear hb)))
     go_roundg kj36
     case measure => have := HJ14.out; have := HK2.out; have := HJ30.out; have := HJ36.out; omega
     case rel => exact ⟨(wrap64 (x15_2 + t169)), (wrap64 (x16_2 + 1)), sm_, sm_, H', ⟨by have := HJ14.out; have := HK2.out; have := HJ30.out; have := HJ36.out; omega⟩, ⟨by refine bs_ ?_; exact BK156.out⟩, ⟨by refine bs_ ?_; exact BK159.out⟩, ⟨at_ HB.out⟩⟩
end Go.Proofs.Ytcaogllnbpmcgaa.P

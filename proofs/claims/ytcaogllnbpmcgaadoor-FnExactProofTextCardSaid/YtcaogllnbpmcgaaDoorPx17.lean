/- Go's functions come to just the answers of the Lean functions told here. -/
import Derived.Test.YtcaogllnbpmcgaaDoorPx16
namespace Go.Proofs.YtcaogllnbpmcgaaDoor.P
open Go.RowKit Go.Proofs.YtcaogllnbpmcgaaDoorW.PrintWords Go.Proofs.YtcaogllnbpmcgaaDoorW.PrintLast Go.Proofs.YtcaogllnbpmcgaaDoorW.PrintMore
attribute [local go_sem] max2_int min2_int max_two min_two max_three min_three max_four min_four
set_option linter.unusedVariables false
set_option linter.unusedSimpArgs false

/-! ### spec_l11Checks: function 59 -/
mutual
def spec_l11Checks.j0 : Nat → Int → List (S79) → List (S82) → Int → List Int → Bool → Int → List (S68) → Int → Int → Int → Option (Int × Bool)
 | 0, _, _, _, _, _, _, _, _, _, _, _ => none
 | k + 1, x0, x1, x2, x4, x5, x54, x225000, x225001, x228000, x228001, x228002 => if x54 = true then (some (0, false)) else (spec_l11Checks.l0 k x0 x1 x2 x4 x5 1 0 x225000 x225001 x228000 x228001 x228002)
def spec_l11Checks.l0 : Nat → Int → List (S79) → List (S82) → Int → List Int → Int → Int → Int → List (S68) → Int → Int → Int → Option (Int × Bool)
 | 0, _, _, _, _, _, _, _, _, _, _, _, _ => none
 | k + 1, x0, x1, x2, x4, x5, x15, x16, x225000, x225001, x228000, x228001, x228002 => if x16 < 2 then (if x16 = 1 then (spec_l11Checks.j2 k x0 x1 x2 x4 x5 x15 x16 x228002 x225000 x225001 x228000 x228001 x228002) else (spec_l11Checks.j2 k x0 x1 x2 x4 x5 x15 x16 x228001 x225000 x225001 x228000 x228001 x228002)) else (some (x15, true))
def spec_l11Checks.j2 : Nat → Int → List (S79) → List (S82) → Int → List Int → Int → Int → Int → Int → List (S68) → Int → Int → Int → Option (Int × Bool)
 | 0, _, _, _, _, _, _, _, _, _, _, _, _, _ => none
 | k + 1, x0, x1, x2, x4, x5, x15, x16, x17, x225000, x225001, x228000, x228001, x228002 => if x17 ≥ 0 then (if x17 ≤ x4 then (spec_l11Checks.j3 k x0 x1 x2 x4 x5 x15 x16 x17 true x225000 x225001 x228000 x228001 x228002) else (spec_l11Checks.j3 k x0 x1 x2 x4 x5 x15 x16 x17 (decide (x17 ≥ (x225001.length : Int))) x225000 x225001 x228000 x228001 x228002)) else (spec_l11Checks.j3 k x0 x1 x2 x4 x5 x15 x16 x17 false x225000 x225001 x228000 x228001 x228002)
def spec_l11Checks.j3 : Nat → Int → List (S79) → List (S82) → Int → List Int → Int → Int → Int → Bool → Int → List (S68) → Int → Int → Int → Option (Int × Bool)
 | 0, _, _, _, _, _, _, _, _, _, _, _, _, _, _ => none
 | k + 1, x0, x1, x2, x4, x5, x15, x16, x17, x78, x225000, x225001, x228000, x228001, x228002 => if x78 = true then (some (0, false)) else ((some (([] : List Int) : List Int)).bind fun y230 => (if y230.length + x5.length < 17592186044416 then ((some (y230 ++ x5 : List Int)).bind fun y233 => (if 0 ≤ x228000 then (if x228000 < (y233.length : Int) then ((spec_l11Checks.f k x0 x1 x2 x225000 x225001 x17 (y233.set (x228000 : Int).toNat x16)).bind fun bt237 => (if bt237.2 = true then (spec_l11Checks.l0 k x0 x1 x2 x4 x5 (wrap64 (x15 + bt237.1)) (wrap64 (x16 + 1)) x225000 x225001 x228000 x228001 x228002) else (some (0, false)))) else (none)) else (none))) else (none)))
def spec_l11Checks.f : Nat → Int → List (S79) → List (S82) → Int → List (S68) → Int → List Int → Option (Int × Bool)
 | 0, _, _, _, _, _, _, _ => none
 | k + 1, a0, l1, l2, a3_0, l3_1, a4, l5 => if a4 < 0 then (if a4 ≥ (wrap64 ((-2) - (l1.length : Int))) then ((spec_l11Closes.f k a0 l1 l2 a4 l5).bind fun t225 => (some (0, t225))) else (some (0, false))) else (if 0 ≤ a4 then (if a4 < (l3_1.length : Int) then ((spec_l1In.f ((rd_T68 l3_1 a4).f0) 0 (wrap64 (a0 - 1))).bind fun t228 => (if t228 = true then (if 0 ≤ ((rd_T68 l3_1 a4).f0) then (if ((rd_T68 l3_1 a4).f0) < (l5.length : Int) then (spec_l11Checks.j0 k a0 l1 l2 a4 l5 (decide ((rd l5 ((rd_T68 l3_1 a4).f0)) ≥ 0)) a3_0 l3_1 ((rd_T68 l3_1 a4).f0) ((rd_T68 l3_1 a4).f1) ((rd_T68 l3_1 a4).f2)) else (none)) else (none)) else (spec_l11Checks.j0 k a0 l1 l2 a4 l5 true a3_0 l3_1 ((rd_T68 l3_1 a4).f0) ((rd_T68 l3_1 a4).f1) ((rd_T68 l3_1 a4).f2)))) else (none)) else (none))
end
theorem spec_l11Checks.mono_l : ∀ k, (∀ y0 y1 y2 y3 y4 y5 y6, LeO (spec_l11Checks.f k y0 y1 y2 y3 y4 y5 y6) (spec_l11Checks.f (k + 1) y0 y1 y2 y3 y4 y5 y6)) ∧ (∀ y0 y1 y2 y3 y4 y5 y6 y7 y8 y9 y10, LeO (spec_l11Checks.j0 k y0 y1 y2 y3 y4 y5 y6 y7 y8 y9 y10) (spec_l11Checks.j0 (k + 1) y0 y1 y2 y3 y4 y5 y6 y7 y8 y9 y10)) ∧ (∀ y0 y1 y2 y3 y4 y5 y6 y7 y8 y9 y10 y11, LeO (spec_l11Checks.l0 k y0 y1 y2 y3 y4 y5 y6 y7 y8 y9 y10 y11) (spec_l11Checks.l0 (k + 1) y0 y1 y2 y3 y4 y5 y6 y7 y8 y9 y10 y11)) ∧ (∀ y0 y1 y2 y3 y4 y5 y6 y7 y8 y9 y10 y11 y12, LeO (spec_l11Checks.j2 k y0 y1 y2 y3 y4 y5 y6 y7 y8 y9 y10 y11 y12) (spec_l11Checks.j2 (k + 1) y0 y1 y2 y3 y4 y5 y6 y7 y8 y9 y10 y11 y12)) ∧ (∀ y0 y1 y2 y3 y4 y5 y6 y7 y8 y9 y10 y11 y12 y13, LeO (spec_l11Checks.j3 k y0 y1 y2 y3 y4 y5 y6 y7 y8 y9 y10 y11 y12 y13) (spec_l11Checks.j3 (k + 1) y0 y1 y2 y3 y4 y5 y6 y7 y8 y9 y10 y11 y12 y13))
 | 0 => ⟨fun _ _ _ _ _ _ _ r h => by simp [spec_l11Checks.f] at h, fun _ _ _ _ _ _ _ _ _ _ _ r h => by simp [spec_l11Checks.j0] at h, fun _ _ _ _ _ _ _ _ _ _ _ _ r h => by simp [spec_l11Checks.l0] at h, fun _ _ _ _ _ _ _ _ _ _ _ _ _ r h => by simp [spec_l11Checks.j2] at h, fun _ _ _ _ _ _ _ _ _ _ _ _ _ _ r h => by simp [spec_l11Checks.j3] at h⟩
 | k + 1 => by
  obtain ⟨ih0, ih1, ih2, ih3, ih4⟩ := spec_l11Checks.mono_l k
  refine ⟨?_, ?_, ?_, ?_, ?_⟩
  ·intro y0 y1 y2 y3 y4 y5 y6
   unfold spec_l11Checks.f
   repeat' first
   | (with_reducible exact ih0 _ _ _ _ _ _ _)
   | (with_reducible exact ih1 _ _ _ _ _ _ _ _ _ _ _)
   | (with_reducible exact ih2 _ _ _ _ _ _ _ _ _ _ _ _)
   | (with_reducible exact ih3 _ _ _ _ _ _ _ _ _ _ _ _ _)
   | (with_reducible exact ih4 _ _ _ _ _ _ _ _ _ _ _ _ _ _)
   | (with_reducible exact spec_l11Closes.mono _ _ _ _ _ _)
   | (with_reducible exact LeO.refl _)
   | (with_reducible exact LeO.none _)
   | (with_reducible refine LeO.ite ?_ ?_)
   | (with_reducible refine LeO.bind ?_ (fun _ => ?_))
  ·intro y0 y1 y2 y3 y4 y5 y6 y7 y8 y9 y10
   unfold spec_l11Checks.j0
   repeat' first
   | (with_reducible exact ih0 _ _ _ _ _ _ _)
   | (with_reducible exact ih1 _ _ _ _ _ _ _ _ _ _ _)
   | (with_reducible exact ih2 _ _ _ _ _ _ _ _ _ _ _ _)
   | (with_reducible exact ih3 _ _ _ _ _ _ _ _ _ _ _ _ _)
   | (with_reducible exact ih4 _ _ _ _ _ _ _ _ _ _ _ _ _ _)
   | (with_reducible exact spec_l11Closes.mono _ _ _ _ _ _)
   | (with_reducible exact LeO.refl _)
   | (with_reducible exact LeO.none _)
   | (with_reducible refine LeO.ite ?_ ?_)
   | (with_reducible refine LeO.bind ?_ (fun _ => ?_))
  ·intro y0 y1 y2 y3 y4 y5 y6 y7 y8 y9 y10 y11
   unfold spec_l11Checks.l0
   repeat' first
   | (with_reducible exact ih0 _ _ _ _ _ _ _)
   | (with_reducible exact ih1 _ _ _ _ _ _ _ _ _ _ _)
   | (with_reducible exact ih2 _ _ _ _ _ _ _ _ _ _ _ _)
   | (with_reducible exact ih3 _ _ _ _ _ _ _ _ _ _ _ _ _)
   | (with_reducible exact ih4 _ _ _ _ _ _ _ _ _ _ _ _ _ _)
   | (with_reducible exact spec_l11Closes.mono _ _ _ _ _ _)
   | (with_reducible exact LeO.refl _)
   | (with_reducible exact LeO.none _)
   | (with_reducible refine LeO.ite ?_ ?_)
   | (with_reducible refine LeO.bind ?_ (fun _ => ?_))
  ·intro y0 y1 y2 y3 y4 y5 y6 y7 y8 y9 y10 y11 y12
   unfold spec_l11Checks.j2
   repeat' first
   | (with_reducible exact ih0 _ _ _ _ _ _ _)
   | (with_reducible exact ih1 _ _ _ _ _ _ _ _ _ _ _)
   | (with_reducible exact ih2 _ _ _ _ _ _ _ _ _ _ _ _)
   | (with_reducible exact ih3 _ _ _ _ _ _ _ _ _ _ _ _ _)
   | (with_reducible exact ih4 _ _ _ _ _ _ _ _ _ _ _ _ _ _)
   | (with_reducible exact spec_l11Closes.mono _ _ _ _ _ _)
   | (with_reducible exact LeO.refl _)
   | (with_reducible exact LeO.none _)
   | (with_reducible refine LeO.ite ?_ ?_)
   | (with_reducible refine LeO.bind ?_ (fun _ => ?_))
  ·intro y0 y1 y2 y3 y4 y5 y6 y7 y8 y9 y10 y11 y12 y13
   unfold spec_l11Checks.j3
   repeat' first
   | (with_reducible exact ih0 _ _ _ _ _ _ _)
   | (with_reducible exact ih1 _ _ _ _ _ _ _ _ _ _ _)
   | (with_reducible exact ih2 _ _ _ _ _ _ _ _ _ _ _ _)
   | (with_reducible exact ih3 _ _ _ _ _ _ _ _ _ _ _ _ _)
   | (with_reducible exact ih4 _ _ _ _ _ _ _ _ _ _ _ _ _ _)
   | (with_reducible exact spec_l11Closes.mono _ _ _ _ _ _)
   | (with_reducible exact LeO.refl _)
   | (with_reducible exact LeO.none _)
   | (with_reducible refine LeO.ite ?_ ?_)
   | (with_reducible refine LeO.bind ?_ (fun _ => ?_))
theorem spec_l11Checks.mono : ∀ a0 a1 a2 a3 a4 a5 a6 k, LeO (spec_l11Checks.f k a0 a1 a2 a3 a4 a5 a6) (spec_l11Checks.f (k + 1) a0 a1 a2 a3 a4 a5 a6) := by
 intro a0 a1 a2 a3 a4 a5 a6 k
 obtain ⟨ih0, ih1, ih2, ih3, ih4⟩ := spec_l11Checks.mono_l k
 exact ih0 a0 a1 a2 a3 a4 a5 a6
set_option maxHeartbeats 8000000 in
set_option maxRecDepth 100000 in
theorem spec_l11Checks.calls (k : Nat) : ∀ (a0 : Int) (A1 : Option Addr) (c1 : Nat) (l1 : List (S79)) (A2 : Option Addr) (c2 : Nat) (l2 : List (S82)) (a3_0 : Int) (A3_1 : Option Addr) (c3_1 : Nat) (l3_1 : List (S68)) (a4 : Int) (A5 : Option Addr) (c5 : Nat) (l5 : List Int) (r1 : Int) (r2 : Bool) (w : World) (hr1 : Kd.C k79 w A1 l1.length l1) (hc1 : l1.length ≤ c1) (hr2 : Kd.C k82 w A2 l2.length l2) (hc2 : l2.length ≤ c2) (hr3_1 : Kd.C k68 w A3_1 l3_1.length l3_1) (hc3_1 : l3_1.length ≤ c3_1) (hr5 : Kd.C (Kd.int .i64) w A5 l5.length l5) (hc5 : l5.length ≤ c5) (h : spec_l11Checks.f k a0 l1 l2 a3_0 l3_1 a4 l5 = some (r1, r2)),
  Calls Tryd.prog 59 #[.int .i64 a0, .slice A1 l1.length c1, .slice A2 l2.length c2, .agg #[.int .i64 a3_0, .slice A3_1 l3_1.length c3_1], .int .i64 a4, .slice A5 l5.length c5] w fun e w' => e = .returned (.tuple #[.int .i64 r1, .bool r2]) ∧ Below w.heap.size w w' := by
 induction k using Nat.strongRecOn with
 | _ k ih =>
 intro a0 A1 c1 l1 A2 c2 l2 a3_0 A3_1 c3_1 l3_1 a4 A5 c5 l5 r1 r2 w hr1 hc1 hr2 hc2 hr3_1 hc3_1 hr5 hc5 h
 cases k with
 | zero => exact absurd h (by simp [spec_l11Checks.f])
 | succ k =>
 simp only [spec_l11Checks.f] at h
 have hu27 := Tryd.underlying27
 have hu68 := Tryd.underlying68
 have HR1 := mk_ hr1
 have HC1 := mk_ hc1
 clear hr1 hc1
 have HR2 := mk_ hr2
 have HC2 := mk_ hc2
 clear hr2 hc2
 have HR3_1 := mk_ hr3_1
 have HC3_1 := mk_ hc3_1
 clear hr3_1 hc3_1
 have HR5 := mk_ hr5
 have HC5 := mk_ hc5
 clear hr5 hc5
 have HB := mk_ (Below.refl w.heap.size w)
 have H : (if a4 < 0 then (if a4 ≥ (wrap64 ((-2) - (l1.length : Int))) then ((spec_l11Closes.f k a0 l1 l2 a4 l5).bind fun t225 => (some (0, t225))) else (some (0, false))) else (if 0 ≤ a4 then (if a4 < (l3_1.length : Int) then ((spec_l1In.f ((rd_T68 l3_1 a4).f0) 0 (wrap64 (a0 - 1))).bind fun t228 => (if t228 = true then (if 0 ≤ ((rd_T68 l3_1 a4).f0) then (if ((rd_T68 l3_1 a4).f0) < (l5.length : Int) then (spec_l11Checks.j0 k a0 l1 l2 a4 l5 (decide ((rd l5 ((rd_T68 l3_1 a4).f0)) ≥ 0)) a3_0 l3_1 ((rd_T68 l3_1 a4).f0) ((rd_T68 l3_1 a4).f1) ((rd_T68 l3_1 a4).f2)) else (none)) else (none)) else (spec_l11Checks.j0 k a0 l1 l2 a4 l5 true a3_0 l3_1 ((rd_T68 l3_1 a4).f0) ((rd_T68 l3_1 a4).f1) ((rd_T68 l3_1 a4).f2)))) else (none)) else (none))) = some (r1, r2) := h
 clear h
 by_cases c7 : a4 < 0
 ·rw [if_pos c7] at H
  have c7b0 : decide (a4 < 0) = true := decide_eq_true c7
  clear c7
  by_cases c8 : a4 ≥ (wrap64 ((-2) - (l1.length : Int)))
  rotate_left
  ·rw [if_neg c8] at H
   have c8b0 : decide ((wrap64 ((-2) - (l1.length : Int))) ≤ a4) = false := decide_eq_false c8
   clear c8
   simp only [Option.some.injEq, Prod.mk.injEq] at H
   obtain ⟨rfl, rfl⟩ := H
   go_enter Tryd.func59, Tryd.ntmps59
   go_wp2_with (first | ((with_reducible refine gate_dst (N := 9) rfl ?_); (try (refine gate_guard (by rfl) ?_; dsimp only)); refine box_event ?hg (N := 9) ?hd (cs := #[.int .i64 a3_0, .slice A3_1 l3_1.length c3_1]) (t := 27) ?hr ?_; (case hd => rfl); (case hg => rfl); (case hr => first | (go_simp; done) | (go_simp; rfl)); intro gb224 hg w12 hbox hb; have GW224 := mk_ (gb_ hg HB.out); have GE224 := mk_ (gb_ hg HB.out); replace HB := mk_ (below_step (below_at HB.out) hb); clear hb hbox hg))
   go_ret2
   exact ⟨er_, at_ HB.out⟩
  rw [if_pos c8] at H
  have c8b0 : decide ((wrap64 ((-2) - (l1.length : Int))) ≤ a4) = true := decide_eq_true c8
  clear c8
  replace H := Option.bind_eq_some_iff.mp H
  obtain ⟨t225, A90, H⟩ := H
  replace H : (some (0, t225)) = some (r1, r2) := H
  have A9 := mk_ A90
  clear A90
  simp only [Option.some.injEq, Prod.mk.injEq] at H
  obtain ⟨rfl, rfl⟩ := H
  go_enter Tryd.func59, Tryd.ntmps59
  go_wp2_with (first | ((with_reducible refine gate_dst (N := 9) rfl ?_); (try (refine gate_guard (by rfl) ?_; dsimp only)); refine box_event ?hg (N := 9) ?hd (cs := #[.int .i64 a3_0, .slice A3_1 l3_1.length c3_1]) (t := 27) ?hr ?_; (case hd => rfl); (case hg => rfl); (case hr => first | (go_simp; done) | (go_simp; rfl)); intro gb224 hg w10 hbox hb; have GW224 := mk_ (gb_ hg HB.out); have GE224 := mk_ (gb_ hg HB.out); replace HB := mk_ (below_step (below_at HB.out) hb); clear hb hbox hg) | (go_at_call 81; (with_reducible refine (spec_l11Closes.calls k a0 _ _ l1 _ _ l2 a4 _ _ l5 t225 _ ?side1 ?side2 ?side3 ?side4 ?side5 ?side6 A9.out).mono ?_); (case side1 => exact Kd.C_below (Kd.C_below HR1.out HB.out) lt_); (case side2 => exact HC1.out); (case side3 => exact Kd.C_below (Kd.C_below HR2.out HB.out) lt_); (case side4 => exact HC2.out); (case side5 => exact Kd.C_below (Kd.C_below HR5.out HB.out) lt_); (case side6 => exact HC5.out); rintro e w11 ⟨rfl, hb⟩; replace HB := mk_ (below_step (at_ HB.out) hb); (try clear BK224); (try clear hb); (try clear hb2); (try clear hk); (try clear hi)))
  go_ret2
  exact ⟨er_, at_ HB.out⟩
 rw [if_neg c7] at H
 have c7b0 : decide (a4 < 0) = false := decide_eq_false c7
 clear c7
 by_cases c13 : 0 ≤ a4
 rotate_left
 ·rw [if_neg c13] at H
  exact absurd H (by simp)
 rw [if_pos c13] at H
 have c13b0 : decide (0 ≤ a4) = true := decide_eq_true c13
 clear c13
 by_cases c14 : a4 < (l3_1.length : Int)
 rotate_left
 ·rw [if_neg c14] at H
  exact absurd H (by simp)
 rw [if_pos c14] at H
 have c14b0 : decide (a4 < (l3_1.length : Int)) = true := decide_eq_true c14
 clear c14
 have HC15 := mk_ H
 clear H
 go_enter Tryd.func59, Tryd.ntmps59
 go_upto_region 4 with (first | ((with_reducible refine gate_dst (N := 9) rfl ?_); (try (refine gate_guard (by rfl) ?_; dsimp only)); refine box_event ?hg (N := 9) ?hd (cs := #[.int .i64 a3_0, .slice A3_1 l3_1.length c3_1]) (t := 27) ?hr ?_; (case hd => rfl); (case hg => rfl); (case hr => first | (go_simp; done) | (go_simp; rfl)); intro gb224 hg w16 hbox hb; have BK224 := mk_ (hbox); have GW224 := mk_ (gb_ hg HB.out); have GE224 := mk_ (gb_ hg HB.out); replace HB := mk_ (below_step (below_at HB.out) hb); clear hb hbox hg; have hcz17_0 := blk_cell BK224.out 0; have hcz17_1 := blk_cell BK224.out 1; have hfz17_0 := blk_frozen BK224.out 0; have hfz17_1 := blk_frozen BK224.out 1; have p226 : 0 ≤ (a4 : Int) := oa_; have q226 : a4 < (l3_1.length : Int) := oa_; obtain ⟨ad226, e226, hx226_0, hx226_1, hx226_2⟩ := at_T68 HR3_1.out a4 p226 q226; cases e226; replace hx226_0 := cel HB.out hx226_0; replace hx226_1 := cel HB.out hx226_1; replace hx226_2 := cel HB.out hx226_2; replace p226 := eq_true p226; replace q226 := eq_true q226) | ((with_reducible refine gate_dst (N := 14) rfl ?_); (try (refine gate_guard (by rfl) ?_; dsimp only)); refine box_event ?hg (N := 14) ?hd (cs := #[.int .i64 0, .int .i64 0, .int .i64 0]) (t := 68) ?hr ?_; (case hd => rfl); (case hg => rfl); (case hr => first | (go_simp; done) | (go_simp; rfl)); intro gb227 hg w18 hbox hb; have BK227 := mk_ (hbox); have GW227 := mk_ ((by rw [hg]; exact (below_size (at_ HB.out)) : w.heap.size ≤ gb227)); have GE227 := mk_ ((by rw [hg]; exact (below_size (at_ HB.out)) : w.heap.size ≤ gb227)); replace HB := mk_ (below_step (at_ HB.out) hb); have NB224_227 := mk_ ((by rw [hg]; exact Nat.ne_of_lt (blk_lt (g := gb224) (o := .cells #[.int .i64 a3_0, .slice (some ad226) l3_1.length c3_1] 27 (0, 0)) (bk_ BK224.out)) : gb224 ≠ gb227)); have NB227_224 := mk_ ((by rw [hg]; exact Nat.ne_of_gt (blk_lt (g := gb224) (o := .cells #[.int .i64 a3_0, .slice (some ad226) l3_1.length c3_1] 27 (0, 0)) (bk_ BK224.out)) : gb227 ≠ gb224)); replace BK224 := mk_ (blk_at BK224.out hb); clear hb hbox hg; have hnb19 := NB227_224.out; have hnc19 := NB224_227.out; have hcz20_0 := blk_cell BK227.out 0; have hcz20_1 := blk_cell BK227.out 1; have hcz20_2 := blk_cell BK227.out 2; have hfz20_0 := blk_frozen BK227.out 0; have hfz20_1 := blk_frozen BK227.out 1; have hfz20_2 := blk_frozen BK227.out 2))
 (try simp only [Act.put, z0_, z1_, z2_])
 go_cut [54] (fun v54 wc => ∃ (kq : Nat) (x54_14 : Bool), v54 = .bool x54_14 ∧ Aside0 (spec_l11Checks.j0 kq a0 l1 l2 a4 l5 x54_14 a3_0 l3_1 ((rd_T68 l3_1 a4).f0) ((rd_T68 l3_1 a4).f1) ((rd_T68 l3_1 a4).f2) = some (r1, r2)) ∧ Aside0 (kq ≤ k) ∧ Aside0 (wc.heap[gb224]? = some (.cells #[.int .i64 a3_0, (.slice (some ad226) l3_1.length c3_1)] 27 (0, 0))) ∧ Aside0 (wc.heap[gb227]? = some (.cells #[.int .i64 ((rd_T68 l3_1 a4).f0), .int .i64 ((rd_T68 l3_1 a4).f1), .int .i64 ((rd_T68 l3_1 a4).f2)] 68 (0, 0))) ∧ Aside0 (Below w.heap.size w wc))
 case first =>
  have H := HC15.out
  clear HC15
  replace H := Option.bind_eq_some_iff.mp H
  obtain ⟨t228, A210, H⟩ := H
  try dsimp only at H
  have A21 := mk_ A210
  clear A210
  by_cases c22 : t228 = true
  rotate_left
  ·replace c22 := Bool.eq_false_iff.mpr c22
   subst c22
   rw [if_neg (show ¬ (false = true) by decide)] at H
   have H' := mk_ H
   clear H
   have hnb27 := NB227_224.out
   have hnc27 := NB224_227.out
   have hcz28_0 := blk_cell BK227.out 0
   have hcz28_1 := blk_cell BK227.out 1
   have hcz28_2 := blk_cell BK227.out 2
   have hfz28_0 := blk_frozen BK227.out 0
   have hfz28_1 := blk_frozen BK227.out 1
   have hfz28_2 := blk_frozen BK227.out 2
   go_wp2_with (first | ((with_reducible refine gate_callee (f := 80) rfl ?_); refine goesL_ (some 45) rfl rfl Tryd.func80 (by kernel_rfl) rfl #[.int .i64 ((rd_T68 l3_1 a4).f0), .int .i64 0, .int .i64 (wrap64 (a0 - 1))] rfl gl_ ?_; (with_reducible refine (spec_l1In.calls ((rd_T68 l3_1 a4).f0) 0 (wrap64 (a0 - 1)) false _ A21.out).mono ?_); rintro e w' ⟨rfl, ⟨nd, rfl⟩⟩; refine ⟨_, rfl, ?_⟩))
   go_meet
   case rel => exact ⟨_, (true), (by first | rfl | (simp; done) | (simp [*]; done)), H', ⟨by first | omega | exact Nat.le_refl _⟩, ⟨by (with_reducible repeat (first | refine blk_drewN ?_ _ | refine blk_drew ?_ | refine blk_alloc ?_ _)); refine blk_far ?_ NB224_227.out _; (with_reducible repeat (first | refine blk_drewN ?_ _ | refine blk_drew ?_ | refine blk_alloc ?_ _)); refine blk_far ?_ NB224_227.out _; (with_reducible repeat (first | refine blk_drewN ?_ _ | refine blk_drew ?_ | refine blk_alloc ?_ _)); refine blk_far ?_ NB224_227.out _; (with_reducible repeat (first | refine blk_drewN ?_ _ | refine blk_drew ?_ | refine blk_alloc ?_ _)); exact BK224.out⟩, ⟨by (with_reducible repeat (first | refine blk_drewN ?_ _ | refine blk_drew ?_ | refine blk_alloc ?_ _)); refine blk_put (cs := #[.int .i64 ((rd_T68 l3_1 a4).f0), .int .i64 ((rd_T68 l3_1 a4).f1), .int .i64 0]) ?_ 2 _ rfl; (with_reducible repeat (first | refine blk_drewN ?_ _ | refine blk_drew ?_ | refine blk_alloc ?_ _)); refine blk_put (cs := #[.int .i64 ((rd_T68 l3_1 a4).f0), .int .i64 0, .int .i64 0]) ?_ 1 _ rfl; (with_reducible repeat (first | refine blk_drewN ?_ _ | refine blk_drew ?_ | refine blk_alloc ?_ _)); refine blk_put (cs := #[.int .i64 0, .int .i64 0, .int .i64 0]) ?_ 0 _ rfl; (with_reducible repeat (first | refine blk_drewN ?_ _ | refine blk_drew ?_ | refine blk_alloc ?_ _)); exact BK227.out⟩, ⟨at_ HB.out⟩⟩
  subst c22
  rw [if_pos rfl] at H
  by_cases c23 : 0 ≤ ((rd_T68 l3_1 a4).f0)
  rotate_left
  ·rw [if_neg c23] at H
   exact absurd H (by simp)
  rw [if_pos c23] at H
  have c23b0 : decide (0 ≤ ((rd_T68 l3_1 a4).f0)) = true := decide_eq_true c23
  clear c23
  (first | rw [c23b0] | (simp only [i64_w, i32_w]; rw [c23b0]) | skip)
  by_cases c24 : ((rd_T68 l3_1 a4).f0) < (l5.length : Int)
  rotate_left
  ·rw [if_neg c24] at H
   exact absurd H (by simp)
  rw [if_pos c24] at H
  have c24b0 : decide (((rd_T68 l3_1 a4).f0) < (l5.length : Int)) = true := decide_eq_true c24
  clear c24
  have H' := mk_ H
  clear H
  have hnb25 := NB227_224.out
  have hnc25 := NB224_227.out
  have hcz26_0 := blk_cell BK227.out 0
  have hcz26_1 := blk_cell BK227.out 1
  have hcz26_2 := blk_cell BK227.out 2
  have hfz26_0 := blk_frozen BK227.out 0
  have hfz26_1 := blk_frozen BK227.out 1
  have hfz26_2 := blk_frozen BK227.out 2
  go_wp2_with (first | ((with_reducible refine gate_callee (f := 80) rfl ?_); refine goesL_ (some 45) rfl rfl Tryd.func80 (by kernel_rfl) rfl #[.int .i64 ((rd_T68 l3_1 a4).f0), .int .i64 0, .int .i64 (wrap64 (a0 - 1))] rfl gl_ ?_; (with_reducible refine (spec_l1In.calls ((rd_T68 l3_1 a4).f0) 0 (wrap64 (a0 - 1)) true _ A21.out).mono ?_); rintro e w' ⟨rfl, ⟨nd, rfl⟩⟩; refine ⟨_, rfl, ?_⟩; have p229 : 0 ≤ (((rd_T68 l3_1 a4).f0) : Int) := oa_; have q229 : ((rd_T68 l3_1 a4).f0) < (l5.length : Int) := oa_; obtain ⟨ad229, e229, hx229_0⟩ := Kd.at_int HR5.out ((rd_T68 l3_1 a4).f0) p229 q229; cases e229; have hn229_0 : ad229.block ≠ gb227 := Nat.ne_of_lt (Nat.lt_of_lt_of_le (by have := World.block_lt_of_cell? _ _ hx229_0; first | rwa [add_block] at this | exact this) GW227.out); have hn229_1 : ad229.block ≠ gb227 := Nat.ne_of_lt (Nat.lt_of_lt_of_le (by have := World.block_lt_of_cell? _ _ hx229_0; first | rwa [add_block] at this | exact this) GW227.out); have hn229_2 : ad229.block ≠ gb227 := Nat.ne_of_lt (Nat.lt_of_lt_of_le (by have := World.block_lt_of_cell? _ _ hx229_0; first | rwa [add_block] at this | exact this) GW227.out); replace hx229_0 := cel HB.out hx229_0; replace hx229_0 := (cell_far (p := ⟨gb227, 0, none⟩) (by first | (rw [add_block]; exact hn229_0) | (show (Addr.add _ _).block ≠ _; rw [add_block]; exact hn229_0) | exact hn229_0) (.int .i64 ((rd_T68 l3_1 a4).f0))).trans hx229_0; replace hx229_0 := (cell_far (p := ⟨gb227, 1, none⟩) (by first | (rw [add_block]; exact hn229_1) | (show (Addr.add _ _).block ≠ _; rw [add_block]; exact hn229_1) | exact hn229_1) (.int .i64 ((rd_T68 l3_1 a4).f1))).trans hx229_0; replace hx229_0 := (cell_far (p := ⟨gb227, 2, none⟩) (by first | (rw [add_block]; exact hn229_2) | (show (Addr.add _ _).block ≠ _; rw [add_block]; exact hn229_2) | exact hn229_2) (.int .i64 ((rd_T68 l3_1 a4).f2))).trans hx229_0; clear hn229_0; clear hn229_1; clear hn229_2; replace p229 := eq_true p229; replace q229 := eq_true q229))
  go_meet
  case rel => exact ⟨_, (decide ((rd l5 ((rd_T68 l3_1 a4).f0)) ≥ 0)), (by first | rfl | (simp; done) | (simp [*]; done)), H', ⟨by first | omega | exact Nat.le_refl _⟩, ⟨by (with_reducible repeat (first | refine blk_drewN ?_ _ | refine blk_drew ?_ | refine blk_alloc ?_ _)); refine blk_far ?_ NB224_227.out _; (with_reducible repeat (first | refine blk_drewN ?_ _ | refine blk_drew ?_ | refine blk_alloc ?_ _)); refine blk_far ?_ NB224_227.out _; (with_reducible repeat (first | refine blk_drewN ?_ _ | refine blk_drew ?_ | refine blk_alloc ?_ _)); refine blk_far ?_ NB224_227.out _; (with_reducible repeat (first | refine blk_drewN ?_ _ | refine blk_drew ?_ | refine blk_alloc ?_ _)); exact BK224.out⟩, ⟨by (with_reducible repeat (first | refine blk_drewN ?_ _ | refine blk_drew ?_ | refine blk_alloc ?_ _)); refine blk_put (cs := #[.int .i64 ((rd_T68 l3_1 a4).f0), .int .i64 ((rd_T68 l3_1 a4).f1), .int .i64 0]) ?_ 2 _ rfl; (with_reducible repeat (first | refine blk_drewN ?_ _ | refine blk_drew ?_ | refine blk_alloc ?_ _)); refine blk_put (cs := #[.int .i64 ((rd_T68 l3_1 a4).f0), .int .i64 0, .int .i64 0]) ?_ 1 _ rfl; (with_reducible repeat (first | refine blk_drewN ?_ _ | refine blk_drew ?_ | refine blk_alloc ?_ _)); refine blk_put (cs := #[.int .i64 0, .int .i64 0, .int .i64 0]) ?_ 0 _ rfl; (with_reducible repeat (first | refine blk_drewN ?_ _ | refine blk_drew ?_ | refine blk_alloc ?_ _)); exact BK227.out⟩, ⟨at_ HB.out⟩⟩
 clear HC15
 try clear c1
 try clear c2
 try clear p2
 try clear q2
 try clear hx2
 try clear c3
 try clear c5
 try clear p6
 try clear c7
 try clear c7b0
 try clear c8
 try clear c8b0
 try clear c13
 try clear c13b0
 try clear c14
 try clear c14b0
 try clear c19
 try clear c22
 try clear p22
 try clear q22
 try clear hx22
 try clear c23
 try clear c23b0
 try clear c24
 try clear c24b0
 try clear c25
 try clear c27
 try clear hcz17_0
 try clear hcz17_1
 try clear hcz20_0
 try clear hcz20_1
 try clear hcz20_2
 try clear hcz26_0
 try clear hcz26_1
 try clear hcz26_2
 try clear hcz28_0
 try clear hcz28_1
 try clear hcz28_2
 try clear hfz17_0
 try clear hfz17_1
 try clear hfz20_0
 try clear hfz20_1
 try clear hfz20_2
 try clear hfz26_0
 try clear hfz26_1
 try clear hfz26_2
 try clear hfz28_0
 try clear hfz28_1
 try clear hfz28_2
 try clear hx226_0
 try clear hx226_1
 try clear hx226_2
 try clear hx229_0
 try clear p226
 try clear p229
 try clear q226
 try clear q229
 obtain ⟨kq, x54_14, rfl, HA, HJ14, BK224, BK227, HB⟩ := hcut
 cases kq with
 | zero => exact absurd HA.out (by simp [spec_l11Checks.j0])
 | succ kj14 =>
  have H := HA.out
  clear HA
  simp only [spec_l11Checks.j0] at H
  by_cases c29 : x54_14 = true
  ·subst c29
   rw [if_pos rfl] at H
   simp only [Option.some.injEq, Prod.mk.injEq] at H
   obtain ⟨rfl, rfl⟩ := H
   go_wp2
   go_ret2
   exact ⟨er_, at_ HB.out⟩
  replace c29 := Bool.eq_false_iff.mpr c29
  subst c29
  rw [if_neg (show ¬ (false = true) by decide)] at H
  have H' := mk_ H
  clear H
  go_wp2
  go_loopg [15, 16] kj14 (fun kq v15 v16 w' => ∃ (x15_2 : Int) (x16_2 : Int), v15 = .int .i64 x15_2 ∧ v16 = .int .i64 x16_2 ∧ Aside0 (spec_l11Checks.l0 kq a0 l1 l2 a4 l5 x15_2 x16_2 a3_0 l3_1 ((rd_T68 l3_1 a4).f0) ((rd_T68 l3_1 a4).f1) ((rd_T68 l3_1 a4).f2) = some (r1, r2)) ∧ Aside0 (kq ≤ kj14) ∧ Aside0 (w'.heap[gb224]? = some (.cells #[.int .i64 a3_0, (.slice (some ad226) l3_1.length c3_1)] 27 (0, 0))) ∧ Aside0 (w'.heap[gb227]? = some (.cells #[.int .i64 ((rd_T68 l3_1 a4).f0), .int .i64 ((rd_T68 l3_1 a4).f1), .int .i64 ((rd_T68 l3_1 a4).f2)] 68 (0, 0))) ∧ Aside0 (Below w.heap.size w w'))
  case atStart => exact ⟨(1), (0), (by first | rfl | (simp; done) | (simp [*]; done)), (by first | rfl | (simp; done) | (simp [*]; done)), H', ⟨Nat.le_refl _⟩, ⟨by (with_reducible repeat (first | refine blk_drewN ?_ _ | refine blk_drew ?_ | refine blk_alloc ?_ _)); exact BK224.out⟩, ⟨by (with_reducible repeat (first | refine blk_drewN ?_ _ | refine blk_drew ?_ | refine blk_alloc ?_ _)); exact BK227.out⟩, ⟨at_ HB.out⟩⟩
  clear H'
  try clear c1
  try clear c2
  try clear p2
  try clear q2
  try clear hx2
  try clear c3
  try clear c5
  try clear p6
  try clear c7
  try clear c7b0
  try clear c8
  try clear c8b0
  try clear c13
  try clear c13b0
  try clear c14
  try clear c14b0
  try clear c19
  try clear c22
  try clear p22
  try clear q22
  try clear hx22
  try clear c23
  try clear c23b0
  try clear c24
  try clear c24b0
  try clear c25
  try clear c27
  try clear c29
  try clear hcz17_0
  try clear hcz17_1
  try clear hcz20_0
  try clear hcz20_1
  try clear hcz20_2
  try clear hcz26_0
  try clear hcz26_1
  try clear hcz26_2
  try clear hcz28_0
  try clear hcz28_1
  try clear hcz28_2
  try clear hfz17_0
  try clear hfz17_1
  try clear hfz20_0
  try clear hfz20_1
  try clear hfz20_2
  try clear hfz26_0
  try clear hfz26_1
  try clear hfz26_2
  try clear hfz28_0
  try clear hfz28_1
  try clear hfz28_2
  try clear hx226_0
  try clear hx226_1
  try clear hx226_2
  try clear hx229_0
  try clear p2
  try clear p22
  try clear p226
  try clear p229
  try clear p6
  try clear q2
  try clear q22
  try clear q226
  try clear q229
  obtain ⟨x15_2, x16_2, rfl, rfl, HA, HK2, BK224, BK227, HB⟩ := hrel
  cases gk with
  | zero => exact absurd HA.out (by simp [spec_l11Checks.l0])
  | succ k2 =>
   have H := HA.out
   clear HA
   simp only [spec_l11Checks.l0] at H
   by_cases c30 : x16_2 < 2
   rotate_left
   ·rw [if_neg c30] at H
    have c30b0 : decide (x16_2 < 2) = false := decide_eq_false c30
    clear c30
    simp only [Option.some.injEq, Prod.mk.injEq] at H
    obtain ⟨rfl, rfl⟩ := H
    go_wp2
    go_ret2
    exact ⟨er_, at_ HB.out⟩
   rw [if_pos c30] at H
   have c30b0 : decide (x16_2 < 2) = true := decide_eq_true c30
   clear c30
   have HC31 := mk_ H
   clear H
   have hnb32 := NB227_224.out
   have hnc32 := NB224_227.out
   have hcz33_0 : wr.cell? ⟨gb227, 0, none⟩ = some (.int .i64 ((rd_T68 l3_1 a4).f0)) := (blk_cell BK227.out 0).trans rfl
   have hcz33_1 : wr.cell? ⟨gb227, 1, none⟩ = some (.int .i64 ((rd_T68 l3_1 a4).f1)) := (blk_cell BK227.out 1).trans rfl
   have hcz33_2 : wr.cell? ⟨gb227, 2, none⟩ = some (.int .i64 ((rd_T68 l3_1 a4).f2)) := (blk_cell BK227.out 2).trans rfl
   have hfz33_0 := blk_frozen BK227.out 0
   have hfz33_1 := blk_frozen BK227.out 1
   have hfz33_2 := blk_frozen BK227.out 2
   go_upto_if 62 with (fail)
   go_cut [17] (fun v17 wc => ∃ (kq : Nat) (x17_30 : Int), v17 = .int .i64 x17_30 ∧ Aside0 (spec_l11Checks.j2 kq a0 l1 l2 a4 l5 x15_2 x16_2 x17_30 a3_0 l3_1 ((rd_T68 l3_1 a4).f0) ((rd_T68 l3_1 a4).f1) ((rd_T68 l3_1 a4).f2) = some (r1, r2)) ∧ Aside0 (kq ≤ k2) ∧ Aside0 (wc.heap[gb224]? = some (.cells #[.int .i64 a3_0, (.slice (some ad226) l3_1.length c3_1)] 27 (0, 0))) ∧ Aside0 (wc.heap[gb227]? = some (.cells #[.int .i64 ((rd_T68 l3_1 a4).f0), .int .i64 ((rd_T68 l3_1 a4).f1), .int .i64 ((rd_T68 l3_1 a4).f2)] 68 (0, 0))) ∧ Aside0 (Below w.heap.size w wc))
   case first =>
    have H := HC31.out
    clear HC31
    by_cases c34 : x16_2 = 1
    rotate_left
    ·rw [if_neg c34] at H
     have c34b0 : (x16_2 == 1) = false := beq_eq_false_iff_ne.mpr c34
     have c34b1 : (x16_2 != 1) = true := bne_iff_ne.mpr c34
     (first | rw [c34b0] | (simp only [i64_w, i32_w]; rw [c34b0]) | skip)
     have H' := mk_ H
     clear H
     go_wp2
     go_meet
     case rel => exact ⟨_, (((rd_T68 l3_1 a4).f1)), (by first | rfl | (simp; done) | (simp [*]; done)), H', ⟨by have := HJ14.out; have := HK2.out; first | omega | exact Nat.le_refl _⟩, ⟨by (with_reducible repeat (first | refine blk_drewN ?_ _ | refine blk_drew ?_ | refine blk_alloc ?_ _)); exact BK224.out⟩, ⟨by (with_reducible repeat (first | refine blk_drewN ?_ _ | refine blk_drew ?_ | refine blk_alloc ?_ _)); exact BK227.out⟩, ⟨at_ HB.out⟩⟩
    rw [if_pos c34] at H
    have c34b0 : (x16_2 == 1) = true := beq_iff_eq.mpr c34
    have c34b1 : (x16_2 != 1) = false := bne_eq_false_iff_eq.mpr c34
    clear c34
    (first | rw [c34b0] | (simp only [i64_w, i32_w]; rw [c34b0]) | skip)
    have H' := mk_ H
    clear H
    have hnb35 := NB227_224.out
    have hnc35 := NB224_227.out
    have hcz36_0 : wr.cell? ⟨gb227, 0, none⟩ = some (.int .i64 ((rd_T68 l3_1 a4).f0)) := (blk_cell BK227.out 0).trans rfl
    have hcz36_1 : wr.cell? ⟨gb227, 1, none⟩ = some (.int .i64 ((rd_T68 l3_1 a4).f1)) := (blk_cell BK227.out 1).trans rfl
    have hcz36_2 : wr.cell? ⟨gb227, 2, none⟩ = some (.int .i64 ((rd_T68 l3_1 a4).f2)) := (blk_cell BK227.out 2).trans rfl
    have hfz36_0 := blk_frozen BK227.out 0
    have hfz36_1 := blk_frozen BK227.out 1
    have hfz36_2 := blk_frozen BK227.out 2
    go_wp2
    go_meet
    case rel => exact ⟨_, (((rd_T68 l3_1 a4).f2)), (by first | rfl | (simp; done) | (simp [*]; done)), H', ⟨by have := HJ14.out; have := HK2.out; first | omega | exact Nat.le_refl _⟩, ⟨by (with_reducible repeat (first | refine blk_drewN ?_ _ | refine blk_drew ?_ | refine blk_alloc ?_ _)); exact BK224.out⟩, ⟨by (with_reducible repeat (first | refine blk_drewN ?_ _ | refine blk_drew ?_ | refine blk_alloc ?_ _)); exact BK227.out⟩, ⟨at_ HB.out⟩⟩
   clear HC31
   try clear c1
   try clear c2
   try clear p2
   try clear q2
   try clear hx2
   try clear c3
   try clear c5
   try clear p6
   try clear c7
   try clear c7b0
   try clear c8
   try clear c8b0
   try clear c13
   try clear c13b0
   try clear c14
   try clear c14b0
   try clear c19
   try clear c22
   try clear p22
   try clear q22
   try clear hx22
   try clear c23
   try clear c23b0
   try clear c24
   try clear c24b0
   try clear c25
   try clear c27
   try clear c29
   try clear c30
   try clear c30b0
   try clear c32
   try clear c34
   try clear c34b0
   try clear c34b1
   try clear c35
   try clear hcz17_0
   try clear hcz17_1
   try clear hcz20_0
   try clear hcz20_1
   try clear hcz20_2
   try clear hcz26_0
   try clear hcz26_1
   try clear hcz26_2
   try clear hcz28_0
   try clear hcz28_1
   try clear hcz28_2
   try clear hcz33_0
   try clear hcz33_1
   try clear hcz33_2
   try clear hcz36_0
   try clear hcz36_1
   try clear hcz36_2
   try clear hfz17_0
   try clear hfz17_1
   try clear hfz20_0
   try clear hfz20_1
   try clear hfz20_2
   try clear hfz26_0
   try clear hfz26_1
   try clear hfz26_2
   try clear hfz28_0
   try clear hfz28_1
   try clear hfz28_2
   try clear hfz33_0
   try clear hfz33_1
   try clear hfz33_2
   try clear hfz36_0
   try clear hfz36_1
   try clear hfz36_2
   try clear hx226_0
   try clear hx226_1
   try clear hx226_2
   try clear hx229_0
   try clear p2
   try clear p22
   try clear p226
   try clear p229
   try clear p6
   try clear q2
   try clear q22
   try clear q226
   try clear q229
   obtain ⟨kq, x17_30, rfl, HA, HJ30, BK224, BK227, HB⟩ := hcut
   cases kq with
   | zero => exact absurd HA.out (by simp [spec_l11Checks.j2])
   | succ kj30 =>
    have H := HA.out
    clear HA
    simp only [spec_l11Checks.j2] at H
    have HC37 := mk_ H
    clear H
    go_upto_region 13 with (fail)
    go_cut [78] (fun v78 wc => ∃ (kq : Nat) (x78_36 : Bool), v78 = .bool x78_36 ∧ Aside0 (spec_l11Checks.j3 kq a0 l1 l2 a4 l5 x15_2 x16_2 x17_30 x78_36 a3_0 l3_1 ((rd_T68 l3_1 a4).f0) ((rd_T68 l3_1 a4).f1) ((rd_T68 l3_1 a4).f2) = some (r1, r2)) ∧ Aside0 (kq ≤ kj30) ∧ Aside0 (wc.heap[gb224]? = some (.cells #[.int .i64 a3_0, (.slice (some ad226) l3_1.length c3_1)] 27 (0, 0))) ∧ Aside0 (wc.heap[gb227]? = some (.cells #[.int .i64 ((rd_T68 l3_1 a4).f0), .int .i64 ((rd_T68 l3_1 a4).f1), .int .i64 ((rd_T68 l3_1 a4).f2)] 68 (0, 0))) ∧ Aside0 (Below w.heap.size w wc))
    case first =>
     have H := HC37.out
     clear HC37
     by_cases c38 : x17_30 ≥ 0
     rotate_left
     ·rw [if_neg c38] at H
      have c38b0 : decide (0 ≤ x17_30) = false := decide_eq_false c38
      clear c38
      (first | rw [c38b0] | (simp only [i64_w, i32_w]; rw [c38b0]) | skip)
      have H' := mk_ H
      clear H
      go_wp2
      go_meet
      case rel => exact ⟨_, (false), (by first | rfl | (simp; done) | (simp [*]; done)), H', ⟨by have := HJ14.out; have := HK2.out; have := HJ30.out; first | omega | exact Nat.le_refl _⟩, ⟨by (with_reducible repeat (first | refine blk_drewN ?_ _ | refine blk_drew ?_ | refine blk_alloc ?_ _)); exact BK224.out⟩, ⟨by (with_reducible repeat (first | refine blk_drewN ?_ _ | refine blk_drew ?_ | refine blk_alloc ?_ _)); exact BK227.out⟩, ⟨at_ HB.out⟩⟩
     rw [if_pos c38] at H
     have c38b0 : decide (0 ≤ x17_30) = true := decide_eq_true c38
     clear c38
     (first | rw [c38b0] | (simp only [i64_w, i32_w]; rw [c38b0]) | skip)
     by_cases c39 : x17_30 ≤ a4
     ·rw [if_pos c39] at H
      have c39b0 : decide (x17_30 ≤ a4) = true := decide_eq_true c39
      clear c39
      have H' := mk_ H
      clear H
      go_wp2
      go_meet
      case rel => exact ⟨_, (true), (by first | rfl | (simp; done) | (simp [*]; done)), H', ⟨by have := HJ14.out; have := HK2.out; have := HJ30.out; first | omega | exact Nat.le_refl _⟩, ⟨by (with_reducible repeat (first | refine blk_drewN ?_ _ | refine blk_drew ?_ | refine blk_alloc ?_ _)); exact BK224.out⟩, ⟨by (with_reducible repeat (first | refine blk_drewN ?_ _ | refine blk_drew ?_ | refine blk_alloc ?_ _)); exact BK227.out⟩, ⟨at_ HB.out⟩⟩
     rw [if_neg c39] at H
     have c39b0 : decide (x17_30 ≤ a4) = false := decide_eq_false c39
     clear c39
     have H' := mk_ H
     clear H
     have hnb40 := NB224_227.out
     have hnc40 := NB227_224.out
     have hcz41_0 : wc.cell? ⟨gb224, 0, none⟩ = some (.int .i64 a3_0) := (blk_cell BK224.out 0).trans rfl
     have hcz41_1 : wc.cell? ⟨gb224, 1, none⟩ = some (.slice (some ad226) l3_1.length c3_1) := (blk_cell BK224.out 1).trans rfl
     have hfz41_0 := blk_frozen BK224.out 0
     have hfz41_1 := blk_frozen BK224.out 1
     go_wp2
     go_meet
     case rel => exact ⟨_, (decide (x17_30 ≥ (l3_1.length : Int))), (by first | rfl | (simp; done) | (simp [*]; done)), H', ⟨by have := HJ14.out; have := HK2.out; have := HJ30.out; first | omega | exact Nat.le_refl _⟩, ⟨by (with_reducible repeat (first | refine blk_drewN ?_ _ | refine blk_drew ?_ | refine blk_alloc ?_ _)); exact BK224.out⟩, ⟨by (with_reducible repeat (first | refine blk_drewN ?_ _ | refine blk_drew ?_ | refine blk_alloc ?_ _)); exact BK227.out⟩, ⟨at_ HB.out⟩⟩
    clear HC37
    try clear c1
    try clear c2
    try clear p2
    try clear q2
    try clear hx2
    try clear c3
    try clear c4
    try clear c5
    try clear p6
    try clear c7
    try clear c7b0
    try clear c8
    try clear c8b0
    try clear c13
    try clear c13b0
    try clear c14
    try clear c14b0
    try clear c19
    try clear c22
    try clear p22
    try clear q22
    try clear hx22
    try clear c23
    try clear c23b0
    try clear c24
    try clear c24b0
    try clear c25
    try clear c27
    try clear c29
    try clear c30
    try clear c30b0
    try clear c32
    try clear c34
    try clear c34b0
    try clear c34b1
    try clear c35
    try clear c38
    try clear c38b0
    try clear c39
    try clear c39b0
    try clear c40
    try clear hcz17_0
    try clear hcz17_1
    try clear hcz20_0
    try clear hcz20_1
    try clear hcz20_2
    try clear hcz26_0
    try clear hcz26_1
    try clear hcz26_2
    try clear hcz28_0
    try clear hcz28_1
    try clear hcz28_2
    try clear hcz33_0
    try clear hcz33_1
    try clear hcz33_2
    try clear hcz36_0
    try clear hcz36_1
    try clear hcz36_2
    try clear hcz41_0
    try clear hcz41_1
    try clear hfz17_0
    try clear hfz17_1
    try clear hfz20_0
    try clear hfz20_1
    try clear hfz20_2
    try clear hfz26_0
    try clear hfz26_1
    try clear hfz26_2
    try clear hfz28_0
    try clear hfz28_1
    try clear hfz28_2
    try clear hfz33_0
    try clear hfz33_1
    try clear hfz33_2
    try clear hfz36_0
    try clear hfz36_1
    try clear hfz36_2
    try clear hfz41_0
    try clear hfz41_1
    try clear hx226_0
    try clear hx226_1
    try clear hx226_2
    try clear hx229_0
    try clear p2
    try clear p22
    try clear p226
    try clear p229
    try clear p6
    try clear q2
    try clear q22
    try clear q226
    try clear q229
    obtain ⟨kq, x78_36, rfl, HA, HJ36, BK224, BK227, HB⟩ := hcut
    cases kq with
    | zero => exact absurd HA.out (by simp [spec_l11Checks.j3])
    | succ kj36 =>
     have H := HA.out
     clear HA
     simp only [spec_l11Checks.j3] at H
     by_cases c42 : x78_36 = true
     ·subst c42
      rw [if_pos rfl] at H
      simp only [Option.some.injEq, Prod.mk.injEq] at H
      obtain ⟨rfl, rfl⟩ := H
      go_wp2
      go_ret2
      exact ⟨er_, at_ HB.out⟩
     replace c42 := Bool.eq_false_iff.mpr c42
     subst c42
     rw [if_neg (show ¬ (false = true) by decide)] at H
     obtain ⟨y230, hy230⟩ : ∃ y_ : List Int, y_ = (([] : List Int)) := ⟨_, rfl⟩
     replace H : (if y230.length + l5.length < 17592186044416 then ((some (y230 ++ l5 : List Int)).bind fun y233 => (if 0 ≤ ((rd_T68 l3_1 a4).f0) then (if ((rd_T68 l3_1 a4).f0) < (y233.length : Int) then ((spec_l11Checks.f kj36 a0 l1 l2 a3_0 l3_1 x17_30 (y233.set (((rd_T68 l3_1 a4).f0) : Int).toNat x16_2)).bind fun bt237 => (if bt237.2 = true then (spec_l11Checks.l0 kj36 a0 l1 l2 a4 l5 (wrap64 (x15_2 + bt237.1)) (wrap64 (x16_2 + 1)) a3_0 l3_1 ((rd_T68 l3_1 a4).f0) ((rd_T68 l3_1 a4).f1) ((rd_T68 l3_1 a4).f2)) else (some (0, false)))) else (none)) else (none))) else (none)) = some (r1, r2) := by first | (rw [hy230]; exact H) | exact H
     have Ny230 := mk_ hy230
     clear hy230
     by_cases c43 : y230.length + l5.length < 17592186044416
     rotate_left
     ·rw [if_neg c43] at H
      exact absurd H (by simp)
     rw [if_pos c43] at H
     have LMc43 := mk_ c43
     clear c43
     obtain ⟨y233, hy233⟩ : ∃ y_ : List Int, y_ = (y230 ++ l5) := ⟨_, rfl⟩
     replace H : (if 0 ≤ ((rd_T68 l3_1 a4).f0) then (if ((rd_T68 l3_1 a4).f0) < (y233.length : Int) then ((spec_l11Checks.f kj36 a0 l1 l2 a3_0 l3_1 x17_30 (y233.set (((rd_T68 l3_1 a4).f0) : Int).toNat x16_2)).bind fun bt237 => (if bt237.2 = true then (spec_l11Checks.l0 kj36 a0 l1 l2 a4 l5 (wrap64 (x15_2 + bt237.1)) (wrap64 (x16_2 + 1)) a3_0 l3_1 ((rd_T68 l3_1 a4).f0) ((rd_T68 l3_1 a4).f1) ((rd_T68 l3_1 a4).f2)) else (some (0, false)))) else (none)) else (none)) = some (r1, r2) := by first | (rw [hy233]; exact H) | exact H
     have Ny233 := mk_ hy233
     clear hy233
     by_cases c44 : 0 ≤ ((rd_T68 l3_1 a4).f0)
     rotate_left
     ·rw [if_neg c44] at H
      exact absurd H (by simp)
     rw [if_pos c44] at H
     have c44b0 : decide (0 ≤ ((rd_T68 l3_1 a4).f0)) = true := decide_eq_true c44
     clear c44
     by_cases c45 : ((rd_T68 l3_1 a4).f0) < (y233.length : Int)
     rotate_left
     ·rw [if_neg c45] at H
      exact absurd H (by simp)
     rw [if_pos c45] at H
     have c45b0 : decide (((rd_T68 l3_1 a4).f0) < (y233.length : Int)) = true := decide_eq_true c45
     clear c45
     obtain ⟨y236, hy236⟩ : ∃ y_ : List Int, y_ = (y233.set (((rd_T68 l3_1 a4).f0) : Int).toNat x16_2) := ⟨_, rfl⟩
     replace H : ((spec_l11Checks.f kj36 a0 l1 l2 a3_0 l3_1 x17_30 y236).bind fun bt237 => (if bt237.2 = true then (spec_l11Checks.l0 kj36 a0 l1 l2 a4 l5 (wrap64 (x15_2 + bt237.1)) (wrap64 (x16_2 + 1)) a3_0 l3_1 ((rd_T68 l3_1 a4).f0) ((rd_T68 l3_1 a4).f1) ((rd_T68 l3_1 a4).f2)) else (some (0, false)))) = some (r1, r2) := by first | (rw [hy236]; exact H) | exact H
     have Ny236 := mk_ hy236
     clear hy236
     replace H := Option.bind_eq_some_iff.mp H
     obtain ⟨⟨t237, t238⟩, A470, H⟩ := H
     try dsimp only at H
     have A47 := mk_ A470
     clear A470
     by_cases c48 : t238 = true
     rotate_left
     ·replace c48 := Bool.eq_false_iff.mpr c48
      subst c48
      rw [if_neg (show ¬ (false = true) by decide)] at H
      simp only [Option.some.injEq, Prod.mk.injEq] at H
      obtain ⟨rfl, rfl⟩ := H
      go_wp2_with (first | ((with_reducible refine gate_dst (N := 79) rfl ?_); (try (refine gate_guard (by rfl) ?_; dsimp only)); refine Kd.R_lit (Kd.int .i64) _ 3 ?hg (N := 79) ?hd (xs := ([] : List Int)) (inner := []) (ok := fun _ => True) (okp := fun _ => True) ?hr ?hp (fun _ hk => hk) trivial (Below.refl _ _) (Nat.le_refl _) (by simp) ?_; (case hd => rfl); (case hg => rfl); (case hr => first | (go_simp; done) | (go_simp; rfl)); (case hp => exact (Reps.none _ _)); intro v231 w58 ho59 hb hg_ hnew_; clear hg_ hnew_; (first | rw [← Ny230.out] at ho59 | (simp only [Int.reduceToNat] at ho59; rw [← Ny230.out] at ho59)); have HO232 := mk_ (Kd.R_lower ho59 (below_size (at_ HB.out))); replace BK224 := mk_ (blk_at BK224.out hb); replace BK227 := mk_ (blk_at BK227.out hb); replace HB := mk_ (below_step (at_ HB.out) hb); clear hb ho59) | ((with_reducible refine gate_builtin (b := .append) (xs := #[.tmp 79, .tmp 80]) rfl ?_); (try (refine gate_guard (by rfl) ?_; dsimp only)); at_builtin; refine Kd.R_append_rows (Kd.int .i64) (w0 := w) w.heap.size rfl (.tmp 79) (.tmp 80) 103 3 (.int .i64 0) 8 rfl Tryd.underlying103 info3 rfl (by decide) (by omega) v231 y230 l5 _ _ _ (fun _ => True) (fun _ => False) rfl rfl ?aO ?aR (fun _ _ h => h) (fun _ h => h.elim) ?aF ?aB ?aS ?aL ?_; (case aR => exact Kd.C_below (Kd.C_below HR5.out HB.out) lt_); (case aB => exact (at_ HB.out)); (case aF => exact (fun _ _ => trivial)); (case aO => exact (Kd.R_below HO232.out lt_)); (case aS => exact (below_size (at_ HB.out))); (case aL => have := LMc43.out; omega); intro v234 w60 ho hb hg hat; rw [← Ny233.out] at ho; replace BK224 := mk_ (blk_grown (g := gb224) (o := .cells #[.int .i64 a3_0, .slice (some ad226) l3_1.length c3_1] 27 (0, 0)) (bk_ BK224.out) hg (Kd.R_ne HO232.out BK224.out (by decide))); replace BK227 := mk_ (blk_grown (g := gb227) (o := .cells #[.int .i64 ((rd_T68 l3_1 a4).f0), .int .i64 ((rd_T68 l3_1 a4).f1), .int .i64 ((rd_T68 l3_1 a4).f2)] 68 (0, 0)) (bk_ BK227.out) hg (Kd.R_ne HO232.out BK227.out (by decide))); replace HB := mk_ (hb); have HO235 := mk_ (ho); (try clear HO232); clear ho hb hg hat; have hnb61 := NB227_224.out; have hnc61 := NB224_227.out; have hcz62_0 := blk_cell BK227.out 0; have hcz62_1 := blk_cell BK227.out 1; have hcz62_2 := blk_cell BK227.out 2; have hfz62_0 := blk_frozen BK227.out 0; have hfz62_1 := blk_frozen BK227.out 1; have hfz62_2 := blk_frozen BK227.out 2; have p46 : 0 ≤ (((rd_T68 l3_1 a4).f0) : Int) := oa_; have q46 : (((rd_T68 l3_1 a4).f0) : Int) < ((y233.length : Int) : Int) := oa_; obtain ⟨go46, co46, eo46, gb46, gl46, cl46, HG46⟩ := Kd.R_form HO235.out (by omega); (first | cases eo46 | (injection eo46 with ea_ en_ ec_; (first | subst ea_ | (injection ea_ with ea_; subst ea_)); subst ec_; clear en_)); have GB46 := mk_ gb46; have GG46 := mk_ HG46; clear gb46 gl46 HG46; obtain ⟨hx46_0, hf46_0⟩ := Kd.R_celln 0 HO235.out (((rd_T68 l3_1 a4).f0) : Int) p46 q46; replace p46 := eq_true p46; replace q46 := eq_true q46; obtain ⟨hy63_, hz63_⟩ := Kd.R_celln 0 HO235.out (((rd_T68 l3_1 a4).f0) : Int) (oa_) (oa_); have HP63 := Kd.R_putg HO235.out (((rd_T68 l3_1 a4).f0) : Int) x16_2) | ((with_reducible refine gate_store (t := 3) (p := 86) rfl ?_); refine store_event (t := 3) (p := 86) (v := ?vo_w64) (w1 := (w60.setCell ⟨go46, (((rd_T68 l3_1 a4).f0) : Int).toNat, none⟩ (.int .i64 x16_2))) ?hg ?ho ?hn ?hr ?_; (case ho => rfl); (case hg => rfl); (case hn => rfl); (case hr => first | (go_simp; done) | (go_simp; rfl)); intro w64 hw; have hg : w60.grownBy w64 (some go46) := (by rw [hw]; exact HP63.2); have hp_ : Kd.R (Kd.int .i64) 3 w64 w.heap.size (fun _ => True) (.slice (some ⟨go46, 0, none⟩) y233.length co46) y236 := (by rw [hw, Ny236.out]; exact HP63.1); clear HP63; replace BK224 := mk_ (blk_grown (g := gb224) (o := .cells #[.int .i64 a3_0, .slice (some ad226) l3_1.length c3_1] 27 (0, 0)) (bk_ BK224.out) hg (Kd.R_ne HO235.out BK224.out (by decide))); replace HO235 := mk_ (hp_); replace HB := mk_ ((by rw [hw]; exact below_set (HB.out) GB46.out : Below w.heap.size w w64)); (try clear BK227); clear hg hw hp_; have hcz65_0 := blk_cell BK224.out 0; have hcz65_1 := blk_cell BK224.out 1; have hfz65_0 := blk_frozen BK224.out 0; have hfz65_1 := blk_frozen BK224.out 1) | ((with_reducible refine gate_callee (f := 59) rfl ?_); refine goesL_ (some 94) rfl rfl Tryd.func59 (by kernel_rfl) rfl #[.int .i64 a0, .slice A1 l1.length c1, .slice A2 l2.length c2, .agg #[.int .i64 a3_0, .slice (some ad226) l3_1.length c3_1], .int .i64 x17_30, .slice (some ⟨go46, 0, none⟩) y236.length co46] rfl (by (try simp only [List.map_toArray, List.map_cons, List.map_nil]); first | done | (rw [show y236.length = y233.length from (Kd.R_reads' HO235.out).1.symm] <;> rfl) | rfl | (simp only [List.length_drop, List.length_take]; rfl)) ?_; (with_reducible refine (ih kj36 (by have := HJ14.out; have := HK2.out; have := HJ30.out; have := HJ36.out; omega) a0 _ _ l1 _ _ l2 a3_0 _ _ l3_1 x17_30 _ _ y236 t237 false _ ?side1 ?side2 ?side3 ?side4 ?side5 ?side6 ?side7 ?side8 A47.out).mono ?_); (case side1 => exact Kd.C_below (Kd.C_below HR1.out HB.out) lt_); (case side2 => exact HC1.out); (case side3 => exact Kd.C_below (Kd.C_below HR2.out HB.out) lt_); (case side4 => exact HC2.out); (case side5 => exact Kd.C_below (Kd.C_below HR3_1.out HB.out) lt_); (case side6 => exact HC3_1.out); (case side7 => exact Kd.C_below (Kd.R_reads' HO235.out).2.2 lt_); (case side8 => rw [show y236.length = y233.length from (Kd.R_reads' HO235.out).1.symm]; exact (Kd.R_reads' HO235.out).2.1); rintro e w66 ⟨rfl, hb⟩; refine ⟨_, rfl, ?_⟩; replace HB := mk_ (below_step (at_ HB.out) hb); (try clear HO235 BK224 BK227); (try clear hb); (try clear hb2); (try clear hk); (try clear hi)))
      go_ret2
      exact ⟨er_, at_ HB.out⟩
     subst c48
     rw [if_pos rfl] at H
     have H' := mk_ H
     clear H
     go_wp2_with (first | ((with_reducible refine gate_dst (N := 79) rfl ?_); (try (refine gate_guard (by rfl) ?_; dsimp only)); refine Kd.R_lit (Kd.int .i64) _ 3 ?hg (N := 79) ?hd (xs := ([] : List Int)) (inner := []) (ok := fun _ => True) (okp := fun _ => True) ?hr ?hp (fun _ hk => hk) trivial (Below.refl _ _) (Nat.le_refl _) (by simp) ?_; (case hd => rfl); (case hg => rfl); (case hr => first | (go_simp; done) | (go_simp; rfl)); (case hp => exact (Reps.none _ _)); intro v231 w49 ho50 hb hg_ hnew_; clear hg_ hnew_; (first | rw [← Ny230.out] at ho50 | (simp only [Int.reduceToNat] at ho50; rw [← Ny230.out] at ho50)); have HO232 := mk_ (Kd.R_lower ho50 (below_size (at_ HB.out))); replace BK224 := mk_ (blk_at BK224.out hb); replace BK227 := mk_ (blk_at BK227.out hb); replace HB := mk_ (below_step (at_ HB.out) hb); clear hb ho50) | ((with_reducible refine gate_builtin (b := .append) (xs := #[.tmp 79, .tmp 80]) rfl ?_); (try (refine gate_guard (by rfl) ?_; dsimp only)); at_builtin; refine Kd.R_append_rows (Kd.int .i64) (w0 := w) w.heap.size rfl (.tmp 79) (.tmp 80) 103 3 (.int .i64 0) 8 rfl Tryd.underlying103 info3 rfl (by decide) (by omega) v231 y230 l5 _ _ _ (fun _ => True) (fun _ => False) rfl rfl ?aO ?aR (fun _ _ h => h) (fun _ h => h.elim) ?aF ?aB ?aS ?aL ?_; (case aR => exact Kd.C_below (Kd.C_below HR5.out HB.out) lt_); (case aB => exact (at_ HB.out)); (case aF => exact (fun _ _ => trivial)); (case aO => exact (Kd.R_below HO232.out lt_)); (case aS => exact (below_size (at_ HB.out))); (case aL => have := LMc43.out; omega); intro v234 w51 ho hb hg hat; rw [← Ny233.out] at ho; replace BK224 := mk_ (blk_grown (g := gb224) (o := .cells #[.int .i64 a3_0, .slice (some ad226) l3_1.length c3_1] 27 (0, 0)) (bk_ BK224.out) hg (Kd.R_ne HO232.out BK224.out (by decide))); replace BK227 := mk_ (blk_grown (g := gb227) (o := .cells #[.int .i64 ((rd_T68 l3_1 a4).f0), .int .i64 ((rd_T68 l3_1 a4).f1), .int .i64 ((rd_T68 l3_1 a4).f2)] 68 (0, 0)) (bk_ BK227.out) hg (Kd.R_ne HO232.out BK227.out (by decide))); replace HB := mk_ (hb); have HO235 := mk_ (ho); (try clear HO232); clear ho hb hg hat; have hnb52 := NB227_224.out; have hnc52 := NB224_227.out; have hcz53_0 := blk_cell BK227.out 0; have hcz53_1 := blk_cell BK227.out 1; have hcz53_2 := blk_cell BK227.out 2; have hfz53_0 := blk_frozen BK227.out 0; have hfz53_1 := blk_frozen BK227.out 1; have hfz53_2 := blk_frozen BK227.out 2; have p46 : 0 ≤ (((rd_T68 l3_1 a4).f0) : Int) := oa_; have q46 : (((rd_T68 l3_1 a4).f0) : Int) < ((y233.length : Int) : Int) := oa_; obtain ⟨go46, co46, eo46, gb46, gl46, cl46, HG46⟩ := Kd.R_form HO235.out (by omega); (first | cases eo46 | (injection eo46 with ea_ en_ ec_; (first | subst ea_ | (injection ea_ with ea_; subst ea_)); subst ec_; clear en_)); have GB46 := mk_ gb46; have GG46 := mk_ HG46; clear gb46 gl46 HG46; obtain ⟨hx46_0, hf46_0⟩ := Kd.R_celln 0 HO235.out (((rd_T68 l3_1 a4).f0) : Int) p46 q46; replace p46 := eq_true p46; replace q46 := eq_true q46; obtain ⟨hy54_, hz54_⟩ := Kd.R_celln 0 HO235.out (((rd_T68 l3_1 a4).f0) : Int) (oa_) (oa_); have HP54 := Kd.R_putg HO235.out (((rd_T68 l3_1 a4).f0) : Int) x16_2) | ((with_reducible refine gate_store (t := 3) (p := 86) rfl ?_); refine store_event (t := 3) (p := 86) (v := ?vo_w55) (w1 := (w51.setCell ⟨go46, (((rd_T68 l3_1 a4).f0) : Int).toNat, none⟩ (.int .i64 x16_2))) ?hg ?ho ?hn ?hr ?_; (case ho => rfl); (case hg => rfl); (case hn => rfl); (case hr => first | (go_simp; done) | (go_simp; rfl)); intro w55 hw; have hg : w51.grownBy w55 (some go46) := (by rw [hw]; exact HP54.2); have hp_ : Kd.R (Kd.int .i64) 3 w55 w.heap.size (fun _ => True) (.slice (some ⟨go46, 0, none⟩) y233.length co46) y236 := (by rw [hw, Ny236.out]; exact HP54.1); clear HP54; replace BK224 := mk_ (blk_grown (g := gb224) (o := .cells #[.int .i64 a3_0, .slice (some ad226) l3_1.length c3_1] 27 (0, 0)) (bk_ BK224.out) hg (Kd.R_ne HO235.out BK224.out (by decide))); replace BK227 := mk_ (blk_grown (g := gb227) (o := .cells #[.int .i64 ((rd_T68 l3_1 a4).f0), .int .i64 ((rd_T68 l3_1 a4).f1), .int .i64 ((rd_T68 l3_1 a4).f2)] 68 (0, 0)) (bk_ BK227.out) hg (Kd.R_ne HO235.out BK227.out (by decide))); replace HO235 := mk_ (hp_); replace HB := mk_ ((by rw [hw]; exact below_set (HB.out) GB46.out : Below w.heap.size w w55)); clear hg hw hp_; have hcz56_0 := blk_cell BK224.out 0; have hcz56_1 := blk_cell BK224.out 1; have hfz56_0 := blk_frozen BK224.out 0; have hfz56_1 := blk_frozen BK224.out 1) | ((with_reducible refine gate_callee (f := 59) rfl ?_); refine goesL_ (some 94) rfl rfl Tryd.func59 (by kernel_rfl) rfl #[.int .i64 a0, .slice A1 l1.length c1, .slice A2 l2.length c2, .agg #[.int .i64 a3_0, .slice (some ad226) l3_1.length c3_1], .int .i64 x17_30, .slice (some ⟨go46, 0, none⟩) y236.length co46] rfl (by (try simp only [List.map_toArray, List.map_cons, List.map_nil]); first | done | (rw [show y236.length = y233.length from (Kd.R_reads' HO235.out).1.symm] <;> rfl) | rfl | (simp only [List.length_drop, List.length_take]; rfl)) ?_; (with_reducible refine (ih kj36 (by have := HJ14.out; have := HK2.out; have := HJ30.out; have := HJ36.out; omega) a0 _ _ l1 _ _ l2 a3_0 _ _ l3_1 x17_30 _ _ y236 t237 true _ ?side1 ?side2 ?side3 ?side4 ?side5 ?side6 ?side7 ?side8 A47.out).mono ?_); (case side1 => exact Kd.C_below (Kd.C_below HR1.out HB.out) lt_); (case side2 => exact HC1.out); (case side3 => exact Kd.C_below (Kd.C_below HR2.out HB.out) lt_); (case side4 => exact HC2.out); (case side5 => exact Kd.C_below (Kd.C_below HR3_1.out HB.out) lt_); (case side6 => exact HC3_1.out); (case side7 => exact Kd.C_below (Kd.R_reads' HO235.out).2.2 lt_); (case side8 => rw [show y236.length = y233.length from (Kd.R_reads' HO235.out).1.symm]; exact (Kd.R_reads' HO235.out).2.1); rintro e w57 ⟨rfl, hb⟩; refine ⟨_, rfl, ?_⟩; replace BK224 := mk_ (blk_at BK224.out hb); replace BK227 := mk_ (blk_at BK227.out hb); replace HB := mk_ (below_step (at_ HB.out) hb); (try clear HO235); (try clear hb); (try clear hb2); (try clear hk); (try clear hi)))
     go_roundg kj36
     case measure => have := HJ14.out; have := HK2.out; have := HJ30.out; have := HJ36.out; omega
     case rel => exact ⟨(wrap64 (x15_2 + t237)), (wrap64 (x16_2 + 1)), (by first | rfl | (simp; done) | (simp [*]; done)), (by first | rfl | (simp; done) | (simp [*]; done)), H', ⟨by have := HJ14.out; have := HK2.out; have := HJ30.out; have := HJ36.out; omega⟩, ⟨by (with_reducible repeat (first | refine blk_drewN ?_ _ | refine blk_drew ?_ | refine blk_alloc ?_ _)); exact BK224.out⟩, ⟨by (with_reducible repeat (first | refine blk_drewN ?_ _ | refine blk_drew ?_ | refine blk_alloc ?_ _)); exact BK227.out⟩, ⟨at_ HB.out⟩⟩

/-! ### spec_l11Nothing: function 60 -/
def spec_l11Nothing.l0 : Nat → Int → List Int → Int → Option (List Int)
 | 0, _, _, _ => none
 | k + 1, x0, x3, x4 => if x4 < x0 then (if x3.length < 17592186044416 then (spec_l11Nothing.l0 k x0 (x3 ++ [(-1)]) (wrap64 (x4 + 1))) else (none)) else (some x3)
def spec_l11Nothing.f (k : Nat) (a0 : Int) : Option (List Int) := spec_l11Nothing.l0 k a0 (([] : List Int)) 0
theorem spec_l11Nothing.mono_l : ∀ k, (∀ y0 y1 y2, LeO (spec_l11Nothing.l0 k y0 y1 y2) (spec_l11Nothing.l0 (k + 1) y0 y1 y2))
 | 0 => fun _ _ _ r h => by simp [spec_l11Nothing.l0] at h
 | k + 1 => by
  have ih0 := spec_l11Nothing.mono_l k
  ·intro y0 y1 y2
   unfold spec_l11Nothing.l0
   repeat' first
   | (with_reducible exact ih0 _ _ _)
   | (with_reducible exact LeO.refl _)
   | (with_reducible exact LeO.none _)
   | (with_reducible refine LeO.ite ?_ ?_)
   | (with_reducible refine LeO.bind ?_ (fun _ => ?_))
theorem spec_l11Nothing.mono : ∀ a0 k, LeO (spec_l11Nothing.f k a0) (spec_l11Nothing.f (k + 1) a0) := by
 intro a0 k
 have ih0 := spec_l11Nothing.mono_l k
 unfold spec_l11Nothing.f
 repeat' first
   | (with_reducible exact ih0 _ _ _)
   | (with_reducible exact LeO.refl _)
   | (with_reducible exact LeO.none _)
   | (with_reducible refine LeO.ite ?_ ?_)
   | (with_reducible refine LeO.bind ?_ (fun _ => ?_))
set_option maxHeartbeats 8000000 in
set_option maxRecDepth 100000 in
theorem spec_l11Nothing.calls (k : Nat) (a0 : Int) (r : List Int) (w : World) (h : spec_l11Nothing.f k a0 = some r) :
  Calls Tryd.prog 60 #[.int .i64 a0] w fun e w' => ∃ v0_ : Value, e = .returned (v0_) ∧ Kd.R (Kd.int .i64) 3 w' w.heap.size (fun _ => True) v0_ r ∧ Below w.heap.size w w' := by
 have HB := mk_ (Below.refl w.heap.size w)
 have H : (spec_l11Nothing.l0 k a0 (([] : List Int)) 0) = some r := h
 clear h
 obtain ⟨y239, hy239⟩ : ∃ y_ : List Int, y_ = (([] : List Int)) := ⟨_, rfl⟩
 replace H : (spec_l11Nothing.l0 k a0 y239 0) = some r := by first | (rw [hy239]; exact H) | exact H
 have Ny239 := mk_ hy239
 clear hy239
 have H' := mk_ H
 clear H
 go_enter Tryd.func60, Tryd.ntmps60
 go_wp2_with (first | ((with_reducible refine gate_dst (N := 5) rfl ?_); refine Kd.R_lit (Kd.int .i64) _ 3 ?hg (N := 5) ?hd (xs := ([] : List Int)) (inner := []) (ok := fun _ => True) (okp := fun _ => True) ?hr ?hp (fun _ hk => hk) trivial (Below.refl _ _) (Nat.le_refl _) (by simp) ?_; (case hd => rfl); (case hg => rfl); (case hr => first | (go_simp; done) | (go_simp; rfl)); (case hp => exact (Reps.none _ _)); intro v240 w2 ho3 hb hg_ hnew_; clear hg_ hnew_; (first | rw [← Ny239.out] at ho3 | (simp only [Int.reduceToNat] at ho3; rw [← Ny239.out] at ho3)); have HO241 := mk_ (Kd.R_lower ho3 (below_size (below_at HB.out))); replace HB := mk_ (below_step (below_at HB.out) hb); clear hb ho3))
 go_loopg [3, 4] k (fun kq v3 v4 w' => ∃ (x3_1 : List Int) (x4_1 : Int), v4 = .int .i64 x4_1 ∧ Aside0 (spec_l11Nothing.l0 kq a0 x3_1 x4_1 = some r) ∧ Aside0 (kq ≤ k) ∧ Aside0 (Kd.R (Kd.int .i64) 3 w' w.heap.size (fun _ => True) v3 x3_1) ∧ Aside0 (Below w.heap.size w w'))
 case atStart => exact ⟨(y239), (0), (by first | rfl | (simp; done) | (simp [*]; done)), H', ⟨Nat.le_refl _⟩, ⟨Kd.R_below HO241.out lt_⟩, ⟨below_at HB.out⟩⟩
 clear H'
 try clear p2
 obtain ⟨x3_1, x4_1, rfl, HA, HK1, HO_3, HB⟩ := hrel
 cases gk with
 | zero => exact absurd HA.out (by simp [spec_l11Nothing.l0])
 | succ k1 =>
  have H := HA.out
  clear HA
  simp only [spec_l11Nothing.l0] at H
  by_cases c4 : x4_1 < a0
  rotate_left
  ·rw [if_neg c4] at H
   have c4b0 : decide (x4_1 < a0) = false := decide_eq_false c4
   clear c4
   obtain rfl := Option.some.inj H
   go_wp2
   go_ret
   exact ⟨_, er_, by (with_reducible repeat (first | apply Kd.R_alloc | apply Kd.R_drewN | apply Kd.R_drew)); exact HO_3.out, below_at HB.out⟩
  rw [if_pos c4] at H
  have c4b0 : decide (x4_1 < a0) = true := decide_eq_true c4
  clear c4
  by_cases c5 : x3_1.length < 17592186044416
  rotate_left
  ·rw [if_neg c5] at H
   exact absurd H (by simp)
  rw [if_pos c5] at H
  have LMc5 := mk_ c5
  clear c5
  obtain ⟨y242, hy242⟩ : ∃ y_ : List Int, y_ = (x3_1 ++ [(-1)]) := ⟨_, rfl⟩
  replace H : (spec_l11Nothing.l0 k1 a0 y242 (wrap64 (x4_1 + 1))) = some r := by first | (rw [hy242]; exact H) | exact H
  have Ny242 := mk_ hy242
  clear hy242
  have H' := mk_ H
  clear H
  go_wp2_with (first | ((with_reducible refine gate_builtin (b := .append) (xs := #[.tmp 11, .tmp 12]) rfl ?_); at_builtin; refine Kd.R_append (Kd.int .i64) (w0 := w) w.heap.size rfl (.tmp 11) (.tmp 12) 103 3 (.int .i64 0) 8 rfl Tryd.underlying103 info3 rfl (by decide) (by omega) u3 x3_1 (-1) [.int .i64 (-1)] (fun _ => True) (fun _ => False) rfl rfl ?aP (fun _ hk => hk.elim) ?aF ?aO ?aB ?aS ?aL ?_; (case aP => exact rfl); (case aB => exact (below_at HB.out)); (case aF => exact (fun _ _ => trivial)); (case aO => exact (Kd.R_below HO_3.out lt_)); (case aS => exact (below_size (below_at HB.out))); (case aL => have := LMc5.out; omega); intro v243 w6 ho hb hg hat; rw [← Ny242.out] at ho; replace HB := mk_ (hb); have HO244 := mk_ (ho); (try clear HO_3); clear ho hb hg hat))
  go_roundg k1
  case measure => have := HK1.out; omega
  case rel => exact ⟨(y242), (wrap64 (x4_1 + 1)), (by first | rfl | (simp; done) | (simp [*]; done)), H', ⟨by have := HK1.out; omega⟩, ⟨Kd.R_below HO244.out lt_⟩, ⟨below_at HB.out⟩⟩

end Go.Proofs.YtcaogllnbpmcgaaDoor.P

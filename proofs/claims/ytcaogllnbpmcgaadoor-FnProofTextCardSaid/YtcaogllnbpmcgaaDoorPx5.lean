/- Go's functions come to just the answers of the Lean functions told here. -/
import Derived.Test.YtcaogllnbpmcgaaDoorPx1
import Derived.Test.YtcaogllnbpmcgaaDoorPx4
namespace Go.Proofs.YtcaogllnbpmcgaaDoor.P
open Go.RowKit Go.Proofs.YtcaogllnbpmcgaaDoorW.PrintWords Go.Proofs.YtcaogllnbpmcgaaDoorW.PrintLast Go.Proofs.YtcaogllnbpmcgaaDoorW.PrintMore
attribute [local go_sem] max2_int min2_int max_two min_two max_three min_three max_four min_four
set_option linter.unusedVariables false
set_option linter.unusedSimpArgs false
attribute [local go_sem high] eqA82
mutual
def spec_TermOk.l0 : Nat → Int → List (S82) → Int → Int → Option (Bool)
 | 0, _, _, _, _ => none
 | k + 1, x0, x1, x5, x6 => if x6 < (x1.length : Int) then (if 0 ≤ x6 then (if ((rd_T82 x1 x6).f0) = 0 then (if ((rd_T82 x1 x6).f1) ≥ 0 then (spec_TermOk.j1 k x0 x1 x5 x6 (decide (((rd_T82 x1 x6).f1) < x0))) else (spec_TermOk.j1 k x0 x1 x5 x6 false)) else (spec_TermOk.j1 k x0 x1 x5 x6 false)) else (none)) else ((spec_l1In.f x0 1 4).bind fun t154 => (if t154 = true then (if x5 = 1 then (some (decide ((x1.length : Int) ≤ 15))) else (some false)) else (some false)))
def spec_TermOk.j1 : Nat → Int → List (S82) → Int → Int → Bool → Option (Bool)
 | 0, _, _, _, _, _ => none
 | k + 1, x0, x1, x5, x6, x13 => if x13 = true then (spec_TermOk.l0 k x0 x1 (wrap64 (x5 + 1)) (wrap64 (x6 + 1))) else (if 0 ≤ x6 then (if x6 < (x1.length : Int) then (if ((rd_T82 x1 x6).f0) = 1 then (if ((rd_T82 x1 x6).f1) ≥ 0 then (if ((rd_T82 x1 x6).f1) ≤ x0 then (spec_TermOk.j2 k x0 x1 x5 x6 true) else (spec_TermOk.j2 k x0 x1 x5 x6 ((wrap64 (((rd_T82 x1 x6).f1) - 1)) == x0))) else (spec_TermOk.j2 k x0 x1 x5 x6 false)) else (spec_TermOk.j2 k x0 x1 x5 x6 false)) else (none)) else (none))
def spec_TermOk.j2 : Nat → Int → List (S82) → Int → Int → Bool → Option (Bool)
 | 0, _, _, _, _, _ => none
 | k + 1, x0, x1, x5, x6, x39 => if x39 = true then (spec_TermOk.l0 k x0 x1 (wrap64 (x5 + 1)) (wrap64 (x6 + 1))) else (if 0 ≤ x6 then (if x6 < (x1.length : Int) then (if (((rd_T82 x1 x6).f0) == 2 && (((rd_T82 x1 x6).f1) == 0)) = true then (spec_TermOk.j3 k x0 x1 x5 x6 (decide (x5 ≥ 1))) else (spec_TermOk.j3 k x0 x1 x5 x6 false)) else (none)) else (none))
def spec_TermOk.j3 : Nat → Int → List (S82) → Int → Int → Bool → Option (Bool)
 | 0, _, _, _, _, _ => none
 | k + 1, x0, x1, x5, x6, x75 => if x75 = true then (spec_TermOk.l0 k x0 x1 x5 (wrap64 (x6 + 1))) else (if 0 ≤ x6 then (if x6 < (x1.length : Int) then ((spec_l1In.f ((rd_T82 x1 x6).f0) 3 5).bind fun t164 => (if t164 = true then (if ((rd_T82 x1 x6).f1) = 0 then (if x5 ≥ 2 then (spec_TermOk.l0 k x0 x1 (wrap64 (x5 - 1)) (wrap64 (x6 + 1))) else (some false)) else (some false)) else (some false))) else (none)) else (none))
end
def spec_TermOk.f (k : Nat) (a0 : Int) (l1 : List (S82)) : Option (Bool) := spec_TermOk.l0 k a0 l1 0 0
set_option maxHeartbeats 8000000 in
set_option maxRecDepth 100000 in
theorem spec_TermOk.calls (k : Nat) (a0 : Int) (A1 : Option Addr) (c1 : Nat) (l1 : List (S82)) (r : Bool) (w : World) (hr1 : Kd.C k82 w A1 l1.length l1) (hc1 : l1.length ≤ c1) (h : spec_TermOk.f k a0 l1 = some r) :
  Calls Tryd.prog 58 #[.int .i64 a0, .slice A1 l1.length c1] w fun e w' => e = .returned (.bool r) ∧ Drawn0 w w' := by
 have hu82 := Tryd.underlying82
 have HR1 := mk_ hr1
 have HC1 := mk_ hc1
 clear hr1 hc1
 have H : (spec_TermOk.l0 k a0 l1 0 0) = some r := h
 clear h
 have H' := mk_ H
 clear H
 go_enter Tryd.func58, Tryd.ntmps58
 go_wp2
 go_loopg [5, 6] k (fun kq v5 v6 w' => ∃ (x5_1 : Int) (x6_1 : Int), v5 = .int .i64 x5_1 ∧ v6 = .int .i64 x6_1 ∧ Aside0 (spec_TermOk.l0 kq a0 l1 x5_1 x6_1 = some r) ∧ Aside0 (kq ≤ k) ∧ Drawn0 w w')
 case atStart => exact ⟨(0), (0), sm_, sm_, H', ⟨Nat.le_refl _⟩, by repeat (first | exact Drawn0.refl _ | apply Drawn0.step)⟩
 clear H'
 try clear c1
 try clear p2
 obtain ⟨x5_1, x6_1, rfl, rfl, HA, HK1, ⟨m1, rfl⟩⟩ := hrel
 cases gk with
 | zero => exact absurd HA.out (by simp [spec_TermOk.l0])
 | succ k1 =>
  have H := HA.out
  clear HA
  simp only [spec_TermOk.l0] at H
  revert H; refine ti_ (df_ fun c3b0 H => ?_) (dt_ fun c3b0 H => ?_)
  ·revert H; refine bd_ fun t154 A27 H => ?_
   try dsimp only at H
   revert H; refine bi_ ?_ ?_ <;> rintro rfl H
   ·obtain rfl := Option.some.inj H
    go_wp2_with (first | (refine gc_ 80 (some 108) Tryd.func80 #[.int .i64 a0, .int .i64 1, .int .i64 4] ?_; (with_reducible refine (spec_l1In.calls a0 1 4 false _ A27.out).mono ?_); rintro e w' ⟨rfl, ⟨nd, rfl⟩⟩; refine ⟨_, rfl, ?_⟩))
    go_ret
    exact ⟨sm_, by repeat (first | exact Drawn0.refl _ | apply Drawn0.step)⟩
   revert H; refine it_ (qt_ fun c29b0 c29b1 H => ?_) (qfk_ fun c29 c29b0 c29b1 H => ?_)
   ·obtain rfl := Option.some.inj H
    go_wp2_with (first | (refine gc_ 80 (some 108) Tryd.func80 #[.int .i64 a0, .int .i64 1, .int .i64 4] ?_; (with_reducible refine (spec_l1In.calls a0 1 4 true _ A27.out).mono ?_); rintro e w' ⟨rfl, ⟨nd, rfl⟩⟩; refine ⟨_, rfl, ?_⟩))
    go_ret
    exact ⟨sm_, by repeat (first | exact Drawn0.refl _ | apply Drawn0.step)⟩
   obtain rfl := Option.some.inj H
   go_wp2_with (first | (refine gc_ 80 (some 108) Tryd.func80 #[.int .i64 a0, .int .i64 1, .int .i64 4] ?_; (with_reducible refine (spec_l1In.calls a0 1 4 true _ A27.out).mono ?_); rintro e w' ⟨rfl, ⟨nd, rfl⟩⟩; refine ⟨_, rfl, ?_⟩))
   go_ret
   exact ⟨sm_, by repeat (first | exact Drawn0.refl _ | apply Drawn0.step)⟩
  have HC4 := mk_ H
  clear H
  go_upto_region 6 with (fail)
  go_cut [13] (fun v13 wc => ∃ (kq : Nat) (x13_3 : Bool), v13 = .bool x13_3 ∧ Aside0 (spec_TermOk.j1 kq a0 l1 x5_1 x6_1 x13_3 = some r) ∧ Aside0 (kq ≤ k1) ∧ Drawn0 w wc)
  case first =>
   have H := HC4.out
   clear HC4
   revert H; refine g_ (dt_ fun c5b0 H => ?_)
   (first | rw [c5b0] | (simp only [i64_w, i32_w]; rw [c5b0]) | skip)
   revert H; refine ti_ (qfk_ fun c6 c6b0 c6b1 H => ?_) (qt_ fun c6b0 c6b1 H => ?_)
   ·have H' := mk_ H
    clear H
    have p155 : 0 ≤ (x6_1 : Int) := oa_
    have q155 : x6_1 < (l1.length : Int) := oa_
    obtain ⟨ad155, e155, hx155_0, hx155_1⟩ := at_T82 HR1.out x6_1 p155 q155
    cases e155
    replace p155 := eq_true p155
    replace q155 := eq_true q155
    go_wp2
    go_meet
    case rel => exact ⟨_, (false), sm_, H', ⟨by have := HK1.out; first | omega | exact Nat.le_refl _⟩, by repeat (first | exact Drawn0.refl _ | apply Drawn0.step)⟩
   revert H; refine ti_ (df_ fun (c7b0 : decide (0 ≤ ((rd_T82 l1 x6_1).f1)) = false) H => ?_) (dt_ fun (c7b0 : decide (0 ≤ ((rd_T82 l1 x6_1).f1)) = true) H => ?_)
   ·have H' := mk_ H
    clear H
    have p155 : 0 ≤ (x6_1 : Int) := oa_
    have q155 : x6_1 < (l1.length : Int) := oa_
    obtain ⟨ad155, e155, hx155_0, hx155_1⟩ := at_T82 HR1.out x6_1 p155 q155
    cases e155
    replace p155 := eq_true p155
    replace q155 := eq_true q155
    have p156 : 0 ≤ (x6_1 : Int) := oa_
    have q156 : x6_1 < (l1.length : Int) := oa_
    obtain ⟨ad156, e156, hx156_0, hx156_1⟩ := at_T82 HR1.out x6_1 p156 q156
    obtain rfl : ad155 = ad156 := (by injection e156)
    replace p156 := eq_true p156
    replace q156 := eq_true q156
    go_wp2
    go_meet
    case rel => exact ⟨_, (false), sm_, H', ⟨by have := HK1.out; first | omega | exact Nat.le_refl _⟩, by repeat (first | exact Drawn0.refl _ | apply Drawn0.step)⟩
   have H' := mk_ H
   clear H
   have p155 : 0 ≤ (x6_1 : Int) := oa_
   have q155 : x6_1 < (l1.length : Int) := oa_
   obtain ⟨ad155, e155, hx155_0, hx155_1⟩ := at_T82 HR1.out x6_1 p155 q155
   cases e155
   replace p155 := eq_true p155
   replace q155 := eq_true q155
   have p156 : 0 ≤ (x6_1 : Int) := oa_
   have q156 : x6_1 < (l1.length : Int) := oa_
   obtain ⟨ad156, e156, hx156_0, hx156_1⟩ := at_T82 HR1.out x6_1 p156 q156
   obtain rfl : ad155 = ad156 := (by injection e156)
   replace p156 := eq_true p156
   replace q156 := eq_true q156
   have p157 : 0 ≤ (x6_1 : Int) := oa_
   have q157 : x6_1 < (l1.length : Int) := oa_
   obtain ⟨ad157, e157, hx157_0, hx157_1⟩ := at_T82 HR1.out x6_1 p157 q157
   obtain rfl : ad155 = ad157 := (by injection e157)
   replace p157 := eq_true p157
   replace q157 := eq_true q157
   go_wp2
   go_meet
   case rel => exact ⟨_, (decide (((rd_T82 l1 x6_1).f1) < a0)), sm_, H', ⟨by have := HK1.out; first | omega | exact Nat.le_refl _⟩, by repeat (first | exact Drawn0.refl _ | apply Drawn0.step)⟩
  clear HC4
  try clear c1
  try clear p1
  try clear q1
  try clear hx1
  try clear p2
  try clear c3
  try clear c3b0
  try clear c5
  try clear c5b0
  try clear c6
  try clear c6b0
  try clear c6b1
  try clear c7
  try clear c7b0
  try clear hx155_0
  try clear hx155_1
  try clear hx156_0
  try clear hx156_1
  try clear hx157_0
  try clear hx157_1
  try clear p155
  try clear p156
  try clear p157
  try clear p2
  try clear q155
  try clear q156
  try clear q157
  obtain ⟨kq, x13_3, rfl, HA, HJ3, ⟨mc3, rfl⟩⟩ := hcut
  cases kq with
  | zero => exact absurd HA.out (by simp [spec_TermOk.j1])
  | succ kj3 =>
   have H := HA.out
   clear HA
   simp only [spec_TermOk.j1] at H
   revert H; refine ib_ ?_ ?_ <;> rintro rfl H
   ·have H' := mk_ H
    clear H
    go_wp2
    go_roundg kj3
    case measure => have := HK1.out; have := HJ3.out; omega
    case rel => exact ⟨(wrap64 (x5_1 + 1)), (wrap64 (x6_1 + 1)), sm_, sm_, H', ⟨by have := HK1.out; have := HJ3.out; omega⟩, by repeat (first | exact Drawn0.refl _ | apply Drawn0.step)⟩
   have HC9 := mk_ H
   clear H
   go_upto_region 8 with (fail)
   go_cut [39] (fun v39 wc => ∃ (kq : Nat) (x39_8 : Bool), v39 = .bool x39_8 ∧ Aside0 (spec_TermOk.j2 kq a0 l1 x5_1 x6_1 x39_8 = some r) ∧ Aside0 (kq ≤ kj3) ∧ Drawn0 w wc)
   case first =>
    have H := HC9.out
    clear HC9
    revert H; refine g_ (dt_ fun c10b0 H => ?_)
    (first | rw [c10b0] | (simp only [i64_w, i32_w]; rw [c10b0]) | skip)
    revert H; refine g_ (dt_ fun c11b0 => ti_ (qfk_ fun c12 c12b0 c12b1 H => ?_) (qt_ fun c12b0 c12b1 H => ?_))
    ·have H' := mk_ H
     clear H
     have p158 : 0 ≤ (x6_1 : Int) := oa_
     have q158 : x6_1 < (l1.length : Int) := oa_
     obtain ⟨ad158, e158, hx158_0, hx158_1⟩ := at_T82 HR1.out x6_1 p158 q158
     cases e158
     replace p158 := eq_true p158
     replace q158 := eq_true q158
     go_wp2
     go_meet
     case rel => exact ⟨_, (false), sm_, H', ⟨by have := HK1.out; have := HJ3.out; first | omega | exact Nat.le_refl _⟩, by repeat (first | exact Drawn0.refl _ | apply Drawn0.step)⟩
    revert H; refine ti_ (df_ fun (c13b0 : decide (0 ≤ ((rd_T82 l1 x6_1).f1)) = false) H => ?_) (dt_ fun (c13b0 : decide (0 ≤ ((rd_T82 l1 x6_1).f1)) = true) H => ?_)
    ·have H' := mk_ H
     clear H
     have p158 : 0 ≤ (x6_1 : Int) := oa_
     have q158 : x6_1 < (l1.length : Int) := oa_
     obtain ⟨ad158, e158, hx158_0, hx158_1⟩ := at_T82 HR1.out x6_1 p158 q158
     cases e158
     replace p158 := eq_true p158
     replace q158 := eq_true q158
     have p159 : 0 ≤ (x6_1 : Int) := oa_
     have q159 : x6_1 < (l1.length : Int) := oa_
     obtain ⟨ad159, e159, hx159_0, hx159_1⟩ := at_T82 HR1.out x6_1 p159 q159
     obtain rfl : ad158 = ad159 := (by injection e159)
     replace p159 := eq_true p159
     replace q159 := eq_true q159
     go_wp2
     go_meet
     case rel => exact ⟨_, (false), sm_, H', ⟨by have := HK1.out; have := HJ3.out; first | omega | exact Nat.le_refl _⟩, by repeat (first | exact Drawn0.refl _ | apply Drawn0.step)⟩
    revert H; refine it_ (dt_ fun c14b0 H => ?_) (df_ fun c14b0 H => ?_)
    ·have H' := mk_ H
     clear H
     have p158 : 0 ≤ (x6_1 : Int) := oa_
     have q158 : x6_1 < (l1.length : Int) := oa_
     obtain ⟨ad158, e158, hx158_0, hx158_1⟩ := at_T82 HR1.out x6_1 p158 q158
     cases e158
     replace p158 := eq_true p158
     replace q158 := eq_true q158
     have p159 : 0 ≤ (x6_1 : Int) := oa_
     have q159 : x6_1 < (l1.length : Int) := oa_
     obtain ⟨ad159, e159, hx159_0, hx159_1⟩ := at_T82 HR1.out x6_1 p159 q159
     obtain rfl : ad158 = ad159 := (by injection e159)
     replace p159 := eq_true p159
     replace q159 := eq_true q159
     have p160 : 0 ≤ (x6_1 : Int) := oa_
     have q160 : x6_1 < (l1.length : Int) := oa_
     obtain ⟨ad160, e160, hx160_0, hx160_1⟩ := at_T82 HR1.out x6_1 p160 q160
     obtain rfl : ad158 = ad160 := (by injection e160)
     replace p160 := eq_true p160
     replace q160 := eq_true q160
     go_wp2
     go_meet
     case rel => exact ⟨_, (true), sm_, H', ⟨by have := HK1.out; have := HJ3.out; first | omega | exact Nat.le_refl _⟩, by repeat (first | exact Drawn0.refl _ | apply Drawn0.step)⟩
    have H' := mk_ H
    clear H
    have p158 : 0 ≤ (x6_1 : Int) := oa_
    have q158 : x6_1 < (l1.length : Int) := oa_
    obtain ⟨ad158, e158, hx158_0, hx158_1⟩ := at_T82 HR1.out x6_1 p158 q158
    cases e158
    replace p158 := eq_true p158
    replace q158 := eq_true q158
    have p159 : 0 ≤ (x6_1 : Int) := oa_
    have q159 : x6_1 < (l1.length : Int) := oa_
    obtain ⟨ad159, e159, hx159_0, hx159_1⟩ := at_T82 HR1.out x6_1 p159 q159
    obtain rfl : ad158 = ad159 := (by injection e159)
    replace p159 := eq_true p159
    replace q159 := eq_true q159
    have p160 : 0 ≤ (x6_1 : Int) := oa_
    have q160 : x6_1 < (l1.length : Int) := oa_
    obtain ⟨ad160, e160, hx160_0, hx160_1⟩ := at_T82 HR1.out x6_1 p160 q160
    obtain rfl : ad158 = ad160 := (by injection e160)
    replace p160 := eq_true p160
    replace q160 := eq_true q160
    have p161 : 0 ≤ (x6_1 : Int) := oa_
    have q161 : x6_1 < (l1.length : Int) := oa_
    obtain ⟨ad161, e161, hx161_0, hx161_1⟩ := at_T82 HR1.out x6_1 p161 q161
    obtain rfl : ad158 = ad161 := (by injection e161)
    replace p161 := eq_true p161
    replace q161 := eq_true q161
    go_wp2
    go_meet
    case rel => exact ⟨_, (((wrap64 (((rd_T82 l1 x6_1).f1) - 1)) == a0)), sm_, H', ⟨by have := HK1.out; have := HJ3.out; first | omega | exact Nat.le_refl _⟩, by repeat (first | exact Drawn0.refl _ | apply Drawn0.step)⟩
   clear HC9
   try clear c1
   try clear p1
   try clear q1
   try clear hx1
   try clear p2
   try clear c3
   try clear c3b0
   try clear c5
   try clear c5b0
   try clear c6
   try clear c6b0
   try clear c6b1
   try clear p6
   try clear c7
   try clear c7b0
   try clear c8
   try clear c10
   try clear c10b0
   try clear c11
   try clear c11b0
   try clear c12
   try clear c12b0
   try clear c12b1
   try clear c13
   try clear c13b0
   try clear c14
   try clear c14b0
   try clear hx155_0
   try clear hx155_1
   try clear hx156_0
   try clear hx156_1
   try clear hx157_0
   try clear hx157_1
   try clear hx158_0
   try clear hx158_1
   try clear hx159_0
   try clear hx159_1
   try clear hx160_0
   try clear hx160_1
   try clear hx161_0
   try clear hx161_1
   try clear p1
   try clear p155
   try clear p156
   try clear p157
   try clear p158
   try clear p159
   try clear p160
   try clear p161
   try clear p2
   try clear q1
   try clear q155
   try clear q156
   try clear q157
   try clear q158
   try clear q159
   try clear q160
   try clear q161
   obtain ⟨kq, x39_8, rfl, HA, HJ8, ⟨mc8, rfl⟩⟩ := hcut
   cases kq with
   | zero => exact absurd HA.out (by simp [spec_TermOk.j2])
   | succ kj8 =>
    have H := HA.out
    clear HA
    simp only [spec_TermOk.j2] at H
    revert H; refine ib_ ?_ ?_ <;> rintro rfl H
    ·have H' := mk_ H
     clear H
     go_wp2
     go_roundg kj8
     case measure => have := HK1.out; have := HJ3.out; have := HJ8.out; omega
     case rel => exact ⟨(wrap64 (x5_1 + 1)), (wrap64 (x6_1 + 1)), sm_, sm_, H', ⟨by have := HK1.out; have := HJ3.out; have := HJ8.out; omega⟩, by repeat (first | exact Drawn0.refl _ | apply Drawn0.step)⟩
    have HC16 := mk_ H
    clear H
    go_upto_region 10 with (fail)
    go_cut [75] (fun v75 wc => ∃ (kq : Nat) (x75_15 : Bool), v75 = .bool x75_15 ∧ Aside0 (spec_TermOk.j3 kq a0 l1 x5_1 x6_1 x75_15 = some r) ∧ Aside0 (kq ≤ kj8) ∧ Drawn0 w wc)
    case first =>
     have H := HC16.out
     clear HC16
     revert H; refine g_ (dt_ fun c17b0 H => ?_)
     (first | rw [c17b0] | (simp only [i64_w, i32_w]; rw [c17b0]) | skip)
     revert H; refine g_ (dt_ fun c18b0 => it_ (fun c19 H => ?_) fun c19 H => ?_)
     ·have c19b0 : (((rd_T82 l1 x6_1).f0) == 2 && (((rd_T82 l1 x6_1).f1) == 0)) = true := c19
      (try (have c19b1 : decide (((rd_T82 l1 x6_1).f0) = 2 && (((rd_T82 l1 x6_1).f1) == 0)) = true := by simpa using c19))
      (try (have c19b2 : (((rd_T82 l1 x6_1).f0) == 2 && (((rd_T82 l1 x6_1).f1) == 0)) = true := by simpa using c19))
      clear c19
      have H' := mk_ H
      clear H
      have p162 : 0 ≤ (x6_1 : Int) := oa_
      have q162 : x6_1 < (l1.length : Int) := oa_
      obtain ⟨ad162, e162, hx162_0, hx162_1⟩ := at_T82 HR1.out x6_1 p162 q162
      cases e162
      replace p162 := eq_true p162
      replace q162 := eq_true q162
      go_wp2
      go_meet
      case rel => exact ⟨_, (decide (x5_1 ≥ 1)), sm_, H', ⟨by have := HK1.out; have := HJ3.out; have := HJ8.out; first | omega | exact Nat.le_refl _⟩, by repeat (first | exact Drawn0.refl _ | apply Drawn0.step)⟩
     have c19b0 : (((rd_T82 l1 x6_1).f0) == 2 && (((rd_T82 l1 x6_1).f1) == 0)) = false := by simpa using c19
     (try (have c19b1 : decide (((rd_T82 l1 x6_1).f0) = 2 && (((rd_T82 l1 x6_1).f1) == 0)) = false := by simpa using c19))
     (try (have c19b2 : (((rd_T82 l1 x6_1).f0) == 2 && (((rd_T82 l1 x6_1).f1) == 0)) = false := by simpa using c19))
     (try (have c19b3 : ¬ (((rd_T82 l1 x6_1).f0) = 2 && (((rd_T82 l1 x6_1).f1) == 0)) := by simpa using c19))
     clear c19
     have H' := mk_ H
     clear H
     have p162 : 0 ≤ (x6_1 : Int) := oa_
     have q162 : x6_1 < (l1.length : Int) := oa_
     obtain ⟨ad162, e162, hx162_0, hx162_1⟩ := at_T82 HR1.out x6_1 p162 q162
     cases e162
     replace p162 := eq_true p162
     replace q162 := eq_true q162
     go_wp2
     go_meet
     case rel => exact ⟨_, (false), sm_, H', ⟨by have := HK1.out; have := HJ3.out; have := HJ8.out; first | omega | exact Nat.le_refl _⟩, by repeat (first | exact Drawn0.refl _ | apply Drawn0.step)⟩
    clear HC16
    try clear c1
    try clear p1
    try clear q1
    try clear hx1
    try clear p2
    try clear c3
    try clear c3b0
    try clear c5
    try clear c5b0
    try clear c6
    try clear c6b0
    try clear c6b1
    try clear p6
    try clear c7
    try clear c7b0
    try clear c8
    try clear c10
    try clear c10b0
    try clear c11
    try clear c11b0
    try clear c12
    try clear c12b0
    try clear c12b1
    try clear c13
    try clear c13b0
    try clear c14
    try clear c14b0
    try clear c15
    try clear p15
    try clear q15
    try clear hx15
    try clear p16
    try clear q16
    try clear hx16
    try clear c17
    try clear c17b0
    try clear c18
    try clear c18b0
    try clear c19
    try clear c19b0
    try clear c19b1
    try clear c19b2
    try clear hx155_0
    try clear hx155_1
    try clear hx156_0
    try clear hx156_1
    try clear hx157_0
    try clear hx157_1
    try clear hx158_0
    try clear hx158_1
    try clear hx159_0
    try clear hx159_1
    try clear hx160_0
    try clear hx160_1
    try clear hx161_0
    try clear hx161_1
    try clear hx162_0
    try clear hx162_1
    try clear p1
    try clear p155
    try clear p156
    try clear p157
    try clear p158
    try clear p159
    try clear p160
    try clear p161
    try clear p162
    try clear p2
    try clear p6
    try clear q1
    try clear q155
    try clear q156
    try clear q157
    try clear q158
    try clear q159
    try clear q160
    try clear q161
    try clear q162
    obtain ⟨kq, x75_15, rfl, HA, HJ15, ⟨mc15, rfl⟩⟩ := hcut
    cases kq with
    | zero => exact absurd HA.out (by simp [spec_TermOk.j3])
    | succ kj15 =>
     have H := HA.out
     clear HA
     simp only [spec_TermOk.j3] at H
     revert H; refine ib_ ?_ ?_ <;> rintro rfl H
     ·have H' := mk_ H
      clear H
      go_wp2
      go_roundg kj15
      case measure => have := HK1.out; have := HJ3.out; have := HJ8.out; have := HJ15.out; omega
      case rel => exact ⟨(x5_1), (wrap64 (x6_1 + 1)), sm_, sm_, H', ⟨by have := HK1.out; have := HJ3.out; have := HJ8.out; have := HJ15.out; omega⟩, by repeat (first | exact Drawn0.refl _ | apply Drawn0.step)⟩
     revert H; refine g_ (dt_ fun c21b0 => g_ (dt_ fun c22b0 => bd_ fun t164 A23 H => ?_))
     try dsimp only at H
     revert H; refine bi_ ?_ ?_ <;> rintro rfl H
     ·obtain rfl := Option.some.inj H
      have p163 : 0 ≤ (x6_1 : Int) := oa_
      have q163 : x6_1 < (l1.length : Int) := oa_
      obtain ⟨ad163, e163, hx163_0, hx163_1⟩ := at_T82 HR1.out x6_1 p163 q163
      cases e163
      replace p163 := eq_true p163
      replace q163 := eq_true q163
      go_wp2_with (first | (refine gc_ 80 (some 92) Tryd.func80 #[.int .i64 ((rd_T82 l1 x6_1).f0), .int .i64 3, .int .i64 5] ?_; (with_reducible refine (spec_l1In.calls ((rd_T82 l1 x6_1).f0) 3 5 false _ A23.out).mono ?_); rintro e w' ⟨rfl, ⟨nd, rfl⟩⟩; refine ⟨_, rfl, ?_⟩))
      go_ret
      exact ⟨sm_, by repeat (first | exact Drawn0.refl _ | apply Drawn0.step)⟩
     revert H; refine ti_ (qfk_ fun c25 c25b0 c25b1 H => ?_) (qt_ fun c25b0 c25b1 H => ?_)
     ·obtain rfl := Option.some.inj H
      have p163 : 0 ≤ (x6_1 : Int) := oa_
      have q163 : x6_1 < (l1.length : Int) := oa_
      obtain ⟨ad163, e163, hx163_0, hx163_1⟩ := at_T82 HR1.out x6_1 p163 q163
      cases e163
      replace p163 := eq_true p163
      replace q163 := eq_true q163
      go_wp2_with (first | (refine gc_ 80 (some 92) Tryd.func80 #[.int .i64 ((rd_T82 l1 x6_1).f0), .int .i64 3, .int .i64 5] ?_; (with_reducible refine (spec_l1In.calls ((rd_T82 l1 x6_1).f0) 3 5 true _ A23.out).mono ?_); rintro e w' ⟨rfl, ⟨nd, rfl⟩⟩; refine ⟨_, rfl, ?_⟩; have p165 : 0 ≤ (x6_1 : Int) := oa_; have q165 : x6_1 < (l1.length : Int) := oa_; obtain ⟨ad165, e165, hx165_0, hx165_1⟩ := at_T82 HR1.out x6_1 p165 q165; obtain rfl : ad163 = ad165 := (by injection e165); replace p165 := eq_true p165; replace q165 := eq_true q165))
      go_ret
      exact ⟨sm_, by repeat (first | exact Drawn0.refl _ | apply Drawn0.step)⟩
     revert H; refine ti_ (df_e fun c26b0 H => ?_) (dt_e fun c26b0 H => ?_)
     ·obtain rfl := Option.some.inj H
      have p163 : 0 ≤ (x6_1 : Int) := oa_
      have q163 : x6_1 < (l1.length : Int) := oa_
      obtain ⟨ad163, e163, hx163_0, hx163_1⟩ := at_T82 HR1.out x6_1 p163 q163
      cases e163
      replace p163 := eq_true p163
      replace q163 := eq_true q163
      go_wp2_with (first | (refine gc_ 80 (some 92) Tryd.func80 #[.int .i64 ((rd_T82 l1 x6_1).f0), .int .i64 3, .int .i64 5] ?_; (with_reducible refine (spec_l1In.calls ((rd_T82 l1 x6_1).f0) 3 5 true _ A23.out).mono ?_); rintro e w' ⟨rfl, ⟨nd, rfl⟩⟩; refine ⟨_, rfl, ?_⟩; have p165 : 0 ≤ (x6_1 : Int) := oa_; have q165 : x6_1 < (l1.length : Int) := oa_; obtain ⟨ad165, e165, hx165_0, hx165_1⟩ := at_T82 HR1.out x6_1 p165 q165; obtain rfl : ad163 = ad165 := (by injection e165); replace p165 := eq_true p165; replace q165 := eq_true q165))
      go_ret
      exact ⟨sm_, by repeat (first | exact Drawn0.refl _ | apply Drawn0.step)⟩
     have H' := mk_ H
     clear H
     have p163 : 0 ≤ (x6_1 : Int) := oa_
     have q163 : x6_1 < (l1.length : Int) := oa_
     obtain ⟨ad163, e163, hx163_0, hx163_1⟩ := at_T82 HR1.out x6_1 p163 q163
     cases e163
     replace p163 := eq_true p163
     replace q163 := eq_true q163
     go_wp2_with (first | (refine gc_ 80 (some 92) Tryd.func80 #[.int .i64 ((rd_T82 l1 x6_1).f0), .int .i64 3, .int .i64 5] ?_; (with_reducible refine (spec_l1In.calls ((rd_T82 l1 x6_1).f0) 3 5 true _ A23.out).mono ?_); rintro e w' ⟨rfl, ⟨nd, rfl⟩⟩; refine ⟨_, rfl, ?_⟩; have p165 : 0 ≤ (x6_1 : Int) := oa_; have q165 : x6_1 < (l1.length : Int) := oa_; obtain ⟨ad165, e165, hx165_0, hx165_1⟩ := at_T82 HR1.out x6_1 p165 q165; obtain rfl : ad163 = ad165 := (by injection e165); replace p165 := eq_true p165; replace q165 := eq_true q165))
     go_roundg kj15
     case measure => have := HK1.out; have := HJ3.out; have := HJ8.out; have := HJ15.out; omega
     case rel => exact ⟨(wrap64 (x5_1 - 1)), (wrap64 (x6_1 + 1)), sm_, sm_, H', ⟨by have := HK1.out; have := HJ3.out; have := HJ8.out; have := HJ15.out; omega⟩, by repeat (first | exact Drawn0.refl _ | apply Drawn0.step)⟩
def spec_ClaimOk.f (k : Nat) (a0 : Int) (a1_0 : Int) (l1_1 : List (S82)) : Option (Bool) := if a1_0 ≥ 0 then (if a1_0 < a0 then ((spec_TermOk.f k a0 l1_1).bind fun t167 => (if t167 = true then (some (decide ((l1_1.length : Int) ≤ 13))) else (some false))) else (some false)) else (some false)
set_option maxHeartbeats 8000000 in
set_option maxRecDepth 100000 in
theorem spec_ClaimOk.calls (k : Nat) (a0 : Int) (a1_0 : Int) (A1_1 : Option Addr) (c1_1 : Nat) (l1_1 : List (S82)) (r : Bool) (w : World) (hr1_1 : Kd.C k82 w A1_1 l1_1.length l1_1) (hc1_1 : l1_1.length ≤ c1_1) (h : spec_ClaimOk.f k a0 a1_0 l1_1 = some r) :
  Calls Tryd.prog 79 #[.int .i64 a0, .agg #[.int .i64 a1_0, .slice A1_1 l1_1.length c1_1]] w fun e w' => e = .returned (.bool r) ∧ Below w.heap.size w w' := by
 have hu79 := Tryd.underlying79
 have HR1_1 := mk_ hr1_1
 have HC1_1 := mk_ hc1_1
 clear hr1_1 hc1_1
 have HB := mk_ (Below.refl w.heap.size w)
 unfold spec_ClaimOk.f at h
 have H := h
 clear h
 revert H; refine ti_ (df_e fun c3b0 H => ?_) (dt_e fun c3b0 H => ?_)
 ·obtain rfl := Option.some.inj H
  go_enter Tryd.func79, Tryd.ntmps79
  go_wp2_with (first | ((with_reducible refine gate_dst (N := 3) rfl ?_); (try (refine gate_guard (by rfl) ?_; dsimp only)); refine bx_ 3 #[.int .i64 a1_0, .slice A1_1 l1_1.length c1_1] 79 ?_; intro gb166 hg w13 hbox hb; have BK166 := mk_ (hbox); have GW166 := gm_ hg HB.out; have GE166 := gm_ hg HB.out; replace HB := mk_ (below_step (below_at HB.out) hb); clear hb hbox hg; have hcz14_0 := blk_cell BK166.out 0; have hcz14_1 := blk_cell BK166.out 1; have hfz14_0 := blk_frozen BK166.out 0; have hfz14_1 := blk_frozen BK166.out 1))
  go_ret
  exact ⟨er_, at_ HB.out⟩
 revert H; refine ti_ (df_ fun c4b0 H => ?_) (dt_ fun c4b0 H => ?_)
 ·obtain rfl := Option.some.inj H
  go_enter Tryd.func79, Tryd.ntmps79
  go_wp2_with (first | ((with_reducible refine gate_dst (N := 3) rfl ?_); (try (refine gate_guard (by rfl) ?_; dsimp only)); refine bx_ 3 #[.int .i64 a1_0, .slice A1_1 l1_1.length c1_1] 79 ?_; intro gb166 hg w11 hbox hb; have BK166 := mk_ (hbox); have GW166 := gm_ hg HB.out; have GE166 := gm_ hg HB.out; replace HB := mk_ (below_step (below_at HB.out) hb); clear hb hbox hg; have hcz12_0 := blk_cell BK166.out 0; have hcz12_1 := blk_cell BK166.out 1; have hfz12_0 := blk_frozen BK166.out 0; have hfz12_1 := blk_frozen BK166.out 1))
  go_ret
  exact ⟨er_, at_ HB.out⟩
 revert H; refine bd_ fun t167 A5 H => ?_
 try dsimp only at H
 revert H; refine ib_ ?_ ?_ <;> rintro rfl H
 ·obtain rfl := Option.some.inj H
  go_enter Tryd.func79, Tryd.ntmps79
  go_wp2_with (first | ((with_reducible refine gate_dst (N := 3) rfl ?_); (try (refine gate_guard (by rfl) ?_; dsimp only)); refine bx_ 3 #[.int .i64 a1_0, .slice A1_1 l1_1.length c1_1] 79 ?_; intro gb166 hg w7 hbox hb; have BK166 := mk_ (hbox); have GW166 := gm_ hg HB.out; have GE166 := gm_ hg HB.out; replace HB := mk_ (below_step (below_at HB.out) hb); clear hb hbox hg; have hcz8_0 := blk_cell BK166.out 0; have hcz8_1 := blk_cell BK166.out 1; have hfz8_0 := blk_frozen BK166.out 0; have hfz8_1 := blk_frozen BK166.out 1) | (go_at_call 58; (with_reducible refine (spec_TermOk.calls k a0 _ _ l1_1 true _ ?side1 ?side2 A5.out).mono ?_); (case side1 => exact Kd.C_below (Kd.C_below HR1_1.out HB.out) lt_); (case side2 => exact HC1_1.out); rintro e w' ⟨rfl, ⟨nd, rfl⟩⟩))
  go_ret
  exact ⟨er_, at_ HB.out⟩
 obtain rfl := Option.some.inj H
 go_enter Tryd.func79, Tryd.ntmps79
 go_wp2_with (first | ((with_reducible refine gate_dst (N := 3) rfl ?_); (try (refine gate_guard (by rfl) ?_; dsimp only)); refine bx_ 3 #[.int .i64 a1_0, .slice A1_1 l1_1.length c1_1] 79 ?_; intro gb166 hg w9 hbox hb; have BK166 := mk_ (hbox); have GW166 := gm_ hg HB.out; have GE166 := gm_ hg HB.out; replace HB := mk_ (below_step (below_at HB.out) hb); clear hb hbox hg; have hcz10_0 := blk_cell BK166.out 0; have hcz10_1 := blk_cell BK166.out 1; have hfz10_0 := blk_frozen BK166.out 0; have hfz10_1 := blk_frozen BK166.out 1) | (go_at_call 58; (with_reducible refine (spec_TermOk.calls k a0 _ _ l1_1 false _ ?side1 ?side2 A5.out).mono ?_); (case side1 => exact Kd.C_below (Kd.C_below HR1_1.out HB.out) lt_); (case side2 => exact HC1_1.out); rintro e w' ⟨rfl, ⟨nd, rfl⟩⟩))
 go_ret
 exact ⟨er_, at_ HB.out⟩
end Go.Proofs.YtcaogllnbpmcgaaDoor.P

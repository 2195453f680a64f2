/- Go's functions come to just the answers of the Lean functions told here. -/
import Derived.Test.YtcaogllnbpmcgaaDoorPx1
import Derived.Test.YtcaogllnbpmcgaaDoorPx18
namespace Go.Proofs.YtcaogllnbpmcgaaDoor.P
open Go.RowKit Go.Proofs.YtcaogllnbpmcgaaDoorW.PrintWords Go.Proofs.YtcaogllnbpmcgaaDoorW.PrintLast Go.Proofs.YtcaogllnbpmcgaaDoorW.PrintMore
attribute [local go_sem] max2_int min2_int max_two min_two max_three min_three max_four min_four
set_option linter.unusedVariables false
set_option linter.unusedSimpArgs false

attribute [local go_sem high] eqA82
/-! ### spec_TermOk: function 58 -/
mutual
def spec_TermOk.l0 : Nat → Int → List (S82) → Int → Int → Option (Bool)
 | 0, _, _, _, _ => none
 | k + 1, x0, x1, x5, x6 => if x6 < (x1.length : Int) then (if 0 ≤ x6 then (if ((rd_T82 x1 x6).f0) = 0 then (if ((rd_T82 x1 x6).f1) ≥ 0 then (spec_TermOk.j1 k x0 x1 x5 x6 (decide (((rd_T82 x1 x6).f1) < x0))) else (spec_TermOk.j1 k x0 x1 x5 x6 false)) else (spec_TermOk.j1 k x0 x1 x5 x6 false)) else (none)) else ((spec_l1In.f x0 1 4).bind fun t223 => (if t223 = true then (if x5 = 1 then (some (decide ((x1.length : Int) ≤ 15))) else (some false)) else (some false)))
def spec_TermOk.j1 : Nat → Int → List (S82) → Int → Int → Bool → Option (Bool)
 | 0, _, _, _, _, _ => none
 | k + 1, x0, x1, x5, x6, x13 => if x13 = true then (spec_TermOk.l0 k x0 x1 (wrap64 (x5 + 1)) (wrap64 (x6 + 1))) else (if 0 ≤ x6 then (if x6 < (x1.length : Int) then (if ((rd_T82 x1 x6).f0) = 1 then (if ((rd_T82 x1 x6).f1) ≥ 0 then (if ((rd_T82 x1 x6).f1) ≤ x0 then (spec_TermOk.j2 k x0 x1 x5 x6 true) else (spec_TermOk.j2 k x0 x1 x5 x6 ((wrap64 (((rd_T82 x1 x6).f1) - 1)) == x0))) else (spec_TermOk.j2 k x0 x1 x5 x6 false)) else (spec_TermOk.j2 k x0 x1 x5 x6 false)) else (none)) else (none))
def spec_TermOk.j2 : Nat → Int → List (S82) → Int → Int → Bool → Option (Bool)
 | 0, _, _, _, _, _ => none
 | k + 1, x0, x1, x5, x6, x39 => if x39 = true then (spec_TermOk.l0 k x0 x1 (wrap64 (x5 + 1)) (wrap64 (x6 + 1))) else (if 0 ≤ x6 then (if x6 < (x1.length : Int) then (if (((rd_T82 x1 x6).f0) == 2 && (((rd_T82 x1 x6).f1) == 0)) = true then (spec_TermOk.j3 k x0 x1 x5 x6 (decide (x5 ≥ 1))) else (spec_TermOk.j3 k x0 x1 x5 x6 false)) else (none)) else (none))
def spec_TermOk.j3 : Nat → Int → List (S82) → Int → Int → Bool → Option (Bool)
 | 0, _, _, _, _, _ => none
 | k + 1, x0, x1, x5, x6, x75 => if x75 = true then (spec_TermOk.l0 k x0 x1 x5 (wrap64 (x6 + 1))) else (if 0 ≤ x6 then (if x6 < (x1.length : Int) then ((spec_l1In.f ((rd_T82 x1 x6).f0) 3 5).bind fun t233 => (if t233 = true then (if ((rd_T82 x1 x6).f1) = 0 then (if x5 ≥ 2 then (spec_TermOk.l0 k x0 x1 (wrap64 (x5 - 1)) (wrap64 (x6 + 1))) else (some false)) else (some false)) else (some false))) else (none)) else (none))
end
def spec_TermOk.f (k : Nat) (a0 : Int) (l1 : List (S82)) : Option (Bool) := spec_TermOk.l0 k a0 l1 0 0
set_option maxHeartbeats 8000000 in
set_option maxRecDepth 100000 in
theorem spec_TermOk.calls (k : Nat) (a0 : Int) (A1 : Option Addr) (c1 : Nat) (l1 : List (S82)) (r : Bool) (w : World) (hr1 : Kd.C k82 w A1 l1.length l1) (hc1 : l1.length ≤ c1) (h : spec_TermOk.f k a0 l1 = some r) :
  Calls Tryd.prog 58 #[.int .i64 a0, .slice A1 l1.length c1] w fun e w' => e = .returned (.bool r) ∧ Drawn0 w w' := by
 have hu82 := Tryd.underlying82
 have HR1 := mk_ hr1
 have HC1 := mk_ hc1
 clear hr1 hc1
 have H : (spec_TermOk.l0 k a0 l1 0 0) = some r := h
 clear h
 have H' := mk_ H
 clear H
 go_enter Tryd.func58, Tryd.ntmps58
 go_wp2
 go_loopg [5, 6] k (fun kq v5 v6 w' => ∃ (x5_1 : Int) (x6_1 : Int), v5 = .int .i64 x5_1 ∧ v6 = .int .i64 x6_1 ∧ Aside0 (spec_TermOk.l0 kq a0 l1 x5_1 x6_1 = some r) ∧ Aside0 (kq ≤ k) ∧ Drawn0 w w')
 case atStart => exact ⟨(0), (0), sm_, sm_, H', ⟨Nat.le_refl _⟩, by repeat (first | exact Drawn0.refl _ | apply Drawn0.step)⟩
 clear H'
 try clear c1
 try clear p2
 obtain ⟨x5_1, x6_1, rfl, rfl, HA, HK1, ⟨m1, rfl⟩⟩ := hrel
 cases gk with
 | zero => exact absurd HA.out (by simp [spec_TermOk.l0])
 | succ k1 =>
  have H := HA.out
  clear HA
  simp only [spec_TermOk.l0] at H
  by_cases c3 : x6_1 < (l1.length : Int)
  rotate_left
  ·rw [if_neg c3] at H
   have c3b0 : decide (x6_1 < (l1.length : Int)) = false := decide_eq_false c3
   clear c3
   replace H := Option.bind_eq_some_iff.mp H
   obtain ⟨t223, A270, H⟩ := H
   try dsimp only at H
   have A27 := mk_ A270
   clear A270
   by_cases c28 : t223 = true
   rotate_left
   ·replace c28 := Bool.eq_false_iff.mpr c28
    subst c28
    rw [if_neg Bool.false_ne_true] at H
    obtain rfl := Option.some.inj H
    go_wp2_with (first | ((with_reducible refine gate_callee (f := 80) rfl ?_); refine goesL_ (some 108) rfl rfl Tryd.func80 (by kernel_rfl) rfl #[.int .i64 a0, .int .i64 1, .int .i64 4] rfl gl_ ?_; (with_reducible refine (spec_l1In.calls a0 1 4 false _ A27.out).mono ?_); rintro e w' ⟨rfl, ⟨nd, rfl⟩⟩; refine ⟨_, rfl, ?_⟩))
    go_ret
    exact ⟨sm_, by repeat (first | exact Drawn0.refl _ | apply Drawn0.step)⟩
   subst c28
   rw [if_pos rfl] at H
   by_cases c29 : x5_1 = 1
   ·rw [if_pos c29] at H
    have c29b0 : (x5_1 == 1) = true := beq_iff_eq.mpr c29
    have c29b1 : (x5_1 != 1) = false := bne_eq_false_iff_eq.mpr c29
    clear c29
    obtain rfl := Option.some.inj H
    go_wp2_with (first | ((with_reducible refine gate_callee (f := 80) rfl ?_); refine goesL_ (some 108) rfl rfl Tryd.func80 (by kernel_rfl) rfl #[.int .i64 a0, .int .i64 1, .int .i64 4] rfl gl_ ?_; (with_reducible refine (spec_l1In.calls a0 1 4 true _ A27.out).mono ?_); rintro e w' ⟨rfl, ⟨nd, rfl⟩⟩; refine ⟨_, rfl, ?_⟩))
    go_ret
    exact ⟨sm_, by repeat (first | exact Drawn0.refl _ | apply Drawn0.step)⟩
   rw [if_neg c29] at H
   have c29b0 : (x5_1 == 1) = false := beq_eq_false_iff_ne.mpr c29
   have c29b1 : (x5_1 != 1) = true := bne_iff_ne.mpr c29
   obtain rfl := Option.some.inj H
   go_wp2_with (first | ((with_reducible refine gate_callee (f := 80) rfl ?_); refine goesL_ (some 108) rfl rfl Tryd.func80 (by kernel_rfl) rfl #[.int .i64 a0, .int .i64 1, .int .i64 4] rfl gl_ ?_; (with_reducible refine (spec_l1In.calls a0 1 4 true _ A27.out).mono ?_); rintro e w' ⟨rfl, ⟨nd, rfl⟩⟩; refine ⟨_, rfl, ?_⟩))
   go_ret
   exact ⟨sm_, by repeat (first | exact Drawn0.refl _ | apply Drawn0.step)⟩
  rw [if_pos c3] at H
  have c3b0 : decide (x6_1 < (l1.length : Int)) = true := decide_eq_true c3
  clear c3
  have HC4 := mk_ H
  clear H
  go_upto_region 6 with (fail)
  go_cut [13] (fun v13 wc => ∃ (kq : Nat) (x13_3 : Bool), v13 = .bool x13_3 ∧ Aside0 (spec_TermOk.j1 kq a0 l1 x5_1 x6_1 x13_3 = some r) ∧ Aside0 (kq ≤ k1) ∧ Drawn0 w wc)
  case first =>
   have H := HC4.out
   clear HC4
   by_cases c5 : 0 ≤ x6_1
   rotate_left
   ·rw [if_neg c5] at H
    exact absurd H (by simp)
   rw [if_pos c5] at H
   have c5b0 : decide (0 ≤ x6_1) = true := decide_eq_true c5
   clear c5
   (first | rw [c5b0] | (simp only [i64_w, i32_w]; rw [c5b0]) | skip)
   by_cases c6 : ((rd_T82 l1 x6_1).f0) = 0
   rotate_left
   ·rw [if_neg c6] at H
    have c6b0 : (((rd_T82 l1 x6_1).f0) == 0) = false := beq_eq_false_iff_ne.mpr c6
    have c6b1 : (((rd_T82 l1 x6_1).f0) != 0) = true := bne_iff_ne.mpr c6
    have H' := mk_ H
    clear H
    have p224 : 0 ≤ (x6_1 : Int) := oa_
    have q224 : x6_1 < (l1.length : Int) := oa_
    obtain ⟨ad224, e224, hx224_0, hx224_1⟩ := at_T82 HR1.out x6_1 p224 q224
    cases e224
    replace p224 := eq_true p224
    replace q224 := eq_true q224
    go_wp2
    go_meet
    case rel => exact ⟨_, (false), sm_, H', ⟨by have := HK1.out; first | omega | exact Nat.le_refl _⟩, by repeat (first | exact Drawn0.refl _ | apply Drawn0.step)⟩
   rw [if_pos c6] at H
   have c6b0 : (((rd_T82 l1 x6_1).f0) == 0) = true := beq_iff_eq.mpr c6
   have c6b1 : (((rd_T82 l1 x6_1).f0) != 0) = false := bne_eq_false_iff_eq.mpr c6
   clear c6
   by_cases c7 : ((rd_T82 l1 x6_1).f1) ≥ 0
   rotate_left
   ·rw [if_neg c7] at H
    have c7b0 : decide (0 ≤ ((rd_T82 l1 x6_1).f1)) = false := decide_eq_false c7
    clear c7
    have H' := mk_ H
    clear H
    have p224 : 0 ≤ (x6_1 : Int) := oa_
    have q224 : x6_1 < (l1.length : Int) := oa_
    obtain ⟨ad224, e224, hx224_0, hx224_1⟩ := at_T82 HR1.out x6_1 p224 q224
    cases e224
    replace p224 := eq_true p224
    replace q224 := eq_true q224
    have p225 : 0 ≤ (x6_1 : Int) := oa_
    have q225 : x6_1 < (l1.length : Int) := oa_
    obtain ⟨ad225, e225, hx225_0, hx225_1⟩ := at_T82 HR1.out x6_1 p225 q225
    obtain rfl : ad224 = ad225 := (by injection e225)
    replace p225 := eq_true p225
    replace q225 := eq_true q225
    go_wp2
    go_meet
    case rel => exact ⟨_, (false), sm_, H', ⟨by have := HK1.out; first | omega | exact Nat.le_refl _⟩, by repeat (first | exact Drawn0.refl _ | apply Drawn0.step)⟩
   rw [if_pos c7] at H
   have c7b0 : decide (0 ≤ ((rd_T82 l1 x6_1).f1)) = true := decide_eq_true c7
   clear c7
   have H' := mk_ H
   clear H
   have p224 : 0 ≤ (x6_1 : Int) := oa_
   have q224 : x6_1 < (l1.length : Int) := oa_
   obtain ⟨ad224, e224, hx224_0, hx224_1⟩ := at_T82 HR1.out x6_1 p224 q224
   cases e224
   replace p224 := eq_true p224
   replace q224 := eq_true q224
   have p225 : 0 ≤ (x6_1 : Int) := oa_
   have q225 : x6_1 < (l1.length : Int) := oa_
   obtain ⟨ad225, e225, hx225_0, hx225_1⟩ := at_T82 HR1.out x6_1 p225 q225
   obtain rfl : ad224 = ad225 := (by injection e225)
   replace p225 := eq_true p225
   replace q225 := eq_true q225
   have p226 : 0 ≤ (x6_1 : Int) := oa_
   have q226 : x6_1 < (l1.length : Int) := oa_
   obtain ⟨ad226, e226, hx226_0, hx226_1⟩ := at_T82 HR1.out x6_1 p226 q226
   obtain rfl : ad224 = ad226 := (by injection e226)
   replace p226 := eq_true p226
   replace q226 := eq_true q226
   go_wp2
   go_meet
   case rel => exact ⟨_, (decide (((rd_T82 l1 x6_1).f1) < a0)), sm_, H', ⟨by have := HK1.out; first | omega | exact Nat.le_refl _⟩, by repeat (first | exact Drawn0.refl _ | apply Drawn0.step)⟩
  clear HC4
  try clear c1
  try clear p2
  try clear q2
  try clear hx2
  try clear c3
  try clear c3b0
  try clear c5
  try clear c5b0
  try clear c6
  try clear c6b0
  try clear c6b1
  try clear c7
  try clear c7b0
  try clear hx224_0
  try clear hx224_1
  try clear hx225_0
  try clear hx225_1
  try clear hx226_0
  try clear hx226_1
  try clear p2
  try clear p224
  try clear p225
  try clear p226
  try clear q224
  try clear q225
  try clear q226
  obtain ⟨kq, x13_3, rfl, HA, HJ3, ⟨mc3, rfl⟩⟩ := hcut
  cases kq with
  | zero => exact absurd HA.out (by simp [spec_TermOk.j1])
  | succ kj3 =>
   have H := HA.out
   clear HA
   simp only [spec_TermOk.j1] at H
   by_cases c8 : x13_3 = true
   ·subst c8
    rw [if_pos rfl] at H
    have H' := mk_ H
    clear H
    go_wp2
    go_roundg kj3
    case measure => have := HK1.out; have := HJ3.out; omega
    case rel => exact ⟨(wrap64 (x5_1 + 1)), (wrap64 (x6_1 + 1)), sm_, sm_, H', ⟨by have := HK1.out; have := HJ3.out; omega⟩, by repeat (first | exact Drawn0.refl _ | apply Drawn0.step)⟩
   replace c8 := Bool.eq_false_iff.mpr c8
   subst c8
   rw [if_neg Bool.false_ne_true] at H
   have HC9 := mk_ H
   clear H
   go_upto_region 8 with (fail)
   go_cut [39] (fun v39 wc => ∃ (kq : Nat) (x39_8 : Bool), v39 = .bool x39_8 ∧ Aside0 (spec_TermOk.j2 kq a0 l1 x5_1 x6_1 x39_8 = some r) ∧ Aside0 (kq ≤ kj3) ∧ Drawn0 w wc)
   case first =>
    have H := HC9.out
    clear HC9
    by_cases c10 : 0 ≤ x6_1
    rotate_left
    ·rw [if_neg c10] at H
     exact absurd H (by simp)
    rw [if_pos c10] at H
    have c10b0 : decide (0 ≤ x6_1) = true := decide_eq_true c10
    clear c10
    (first | rw [c10b0] | (simp only [i64_w, i32_w]; rw [c10b0]) | skip)
    by_cases c11 : x6_1 < (l1.length : Int)
    rotate_left
    ·rw [if_neg c11] at H
     exact absurd H (by simp)
    rw [if_pos c11] at H
    have c11b0 : decide (x6_1 < (l1.length : Int)) = true := decide_eq_true c11
    clear c11
    by_cases c12 : ((rd_T82 l1 x6_1).f0) = 1
    rotate_left
    ·rw [if_neg c12] at H
     have c12b0 : (((rd_T82 l1 x6_1).f0) == 1) = false := beq_eq_false_iff_ne.mpr c12
     have c12b1 : (((rd_T82 l1 x6_1).f0) != 1) = true := bne_iff_ne.mpr c12
     have H' := mk_ H
     clear H
     have p227 : 0 ≤ (x6_1 : Int) := oa_
     have q227 : x6_1 < (l1.length : Int) := oa_
     obtain ⟨ad227, e227, hx227_0, hx227_1⟩ := at_T82 HR1.out x6_1 p227 q227
     cases e227
     replace p227 := eq_true p227
     replace q227 := eq_true q227
     go_wp2
     go_meet
     case rel => exact ⟨_, (false), sm_, H', ⟨by have := HK1.out; have := HJ3.out; first | omega | exact Nat.le_refl _⟩, by repeat (first | exact Drawn0.refl _ | apply Drawn0.step)⟩
    rw [if_pos c12] at H
    have c12b0 : (((rd_T82 l1 x6_1).f0) == 1) = true := beq_iff_eq.mpr c12
    have c12b1 : (((rd_T82 l1 x6_1).f0) != 1) = false := bne_eq_false_iff_eq.mpr c12
    clear c12
    by_cases c13 : ((rd_T82 l1 x6_1).f1) ≥ 0
    rotate_left
    ·rw [if_neg c13] at H
     have c13b0 : decide (0 ≤ ((rd_T82 l1 x6_1).f1)) = false := decide_eq_false c13
     clear c13
     have H' := mk_ H
     clear H
     have p227 : 0 ≤ (x6_1 : Int) := oa_
     have q227 : x6_1 < (l1.length : Int) := oa_
     obtain ⟨ad227, e227, hx227_0, hx227_1⟩ := at_T82 HR1.out x6_1 p227 q227
     cases e227
     replace p227 := eq_true p227
     replace q227 := eq_true q227
     have p228 : 0 ≤ (x6_1 : Int) := oa_
     have q228 : x6_1 < (l1.length : Int) := oa_
     obtain ⟨ad228, e228, hx228_0, hx228_1⟩ := at_T82 HR1.out x6_1 p228 q228
     obtain rfl : ad227 = ad228 := (by injection e228)
     replace p228 := eq_true p228
     replace q228 := eq_true q228
     go_wp2
     go_meet
     case rel => exact ⟨_, (false), sm_, H', ⟨by have := HK1.out; have := HJ3.out; first | omega | exact Nat.le_refl _⟩, by repeat (first | exact Drawn0.refl _ | apply Drawn0.step)⟩
    rw [if_pos c13] at H
    have c13b0 : decide (0 ≤ ((rd_T82 l1 x6_1).f1)) = true := decide_eq_true c13
    clear c13
    by_cases c14 : ((rd_T82 l1 x6_1).f1) ≤ a0
    ·rw [if_pos c14] at H
     have c14b0 : decide (((rd_T82 l1 x6_1).f1) ≤ a0) = true := decide_eq_true c14
     clear c14
     have H' := mk_ H
     clear H
     have p227 : 0 ≤ (x6_1 : Int) := oa_
     have q227 : x6_1 < (l1.length : Int) := oa_
     obtain ⟨ad227, e227, hx227_0, hx227_1⟩ := at_T82 HR1.out x6_1 p227 q227
     cases e227
     replace p227 := eq_true p227
     replace q227 := eq_true q227
     have p228 : 0 ≤ (x6_1 : Int) := oa_
     have q228 : x6_1 < (l1.length : Int) := oa_
     obtain ⟨ad228, e228, hx228_0, hx228_1⟩ := at_T82 HR1.out x6_1 p228 q228
     obtain rfl : ad227 = ad228 := (by injection e228)
     replace p228 := eq_true p228
     replace q228 := eq_true q228
     have p229 : 0 ≤ (x6_1 : Int) := oa_
     have q229 : x6_1 < (l1.length : Int) := oa_
     obtain ⟨ad229, e229, hx229_0, hx229_1⟩ := at_T82 HR1.out x6_1 p229 q229
     obtain rfl : ad227 = ad229 := (by injection e229)
     replace p229 := eq_true p229
     replace q229 := eq_true q229
     go_wp2
     go_meet
     case rel => exact ⟨_, (true), sm_, H', ⟨by have := HK1.out; have := HJ3.out; first | omega | exact Nat.le_refl _⟩, by repeat (first | exact Drawn0.refl _ | apply Drawn0.step)⟩
    rw [if_neg c14] at H
    have c14b0 : decide (((rd_T82 l1 x6_1).f1) ≤ a0) = false := decide_eq_false c14
    clear c14
    have H' := mk_ H
    clear H
    have p227 : 0 ≤ (x6_1 : Int) := oa_
    have q227 : x6_1 < (l1.length : Int) := oa_
    obtain ⟨ad227, e227, hx227_0, hx227_1⟩ := at_T82 HR1.out x6_1 p227 q227
    cases e227
    replace p227 := eq_true p227
    replace q227 := eq_true q227
    have p228 : 0 ≤ (x6_1 : Int) := oa_
    have q228 : x6_1 < (l1.length : Int) := oa_
    obtain ⟨ad228, e228, hx228_0, hx228_1⟩ := at_T82 HR1.out x6_1 p228 q228
    obtain rfl : ad227 = ad228 := (by injection e228)
    replace p228 := eq_true p228
    replace q228 := eq_true q228
    have p229 : 0 ≤ (x6_1 : Int) := oa_
    have q229 : x6_1 < (l1.length : Int) := oa_
    obtain ⟨ad229, e229, hx229_0, hx229_1⟩ := at_T82 HR1.out x6_1 p229 q229
    obtain rfl : ad227 = ad229 := (by injection e229)
    replace p229 := eq_true p229
    replace q229 := eq_true q229
    have p230 : 0 ≤ (x6_1 : Int) := oa_
    have q230 : x6_1 < (l1.length : Int) := oa_
    obtain ⟨ad230, e230, hx230_0, hx230_1⟩ := at_T82 HR1.out x6_1 p230 q230
    obtain rfl : ad227 = ad230 := (by injection e230)
    replace p230 := eq_true p230
    replace q230 := eq_true q230
    go_wp2
    go_meet
    case rel => exact ⟨_, (((wrap64 (((rd_T82 l1 x6_1).f1) - 1)) == a0)), sm_, H', ⟨by have := HK1.out; have := HJ3.out; first | omega | exact Nat.le_refl _⟩, by repeat (first | exact Drawn0.refl _ | apply Drawn0.step)⟩
   clear HC9
   try clear c1
   try clear p2
   try clear q2
   try clear hx2
   try clear c3
   try clear c3b0
   try clear c5
   try clear c5b0
   try clear c6
   try clear c6b0
   try clear c6b1
   try clear p6
   try clear c7
   try clear c7b0
   try clear c8
   try clear c10
   try clear c10b0
   try clear c11
   try clear c11b0
   try clear c12
   try clear c12b0
   try clear c12b1
   try clear c13
   try clear c13b0
   try clear c14
   try clear c14b0
   try clear hx224_0
   try clear hx224_1
   try clear hx225_0
   try clear hx225_1
   try clear hx226_0
   try clear hx226_1
   try clear hx227_0
   try clear hx227_1
   try clear hx228_0
   try clear hx228_1
   try clear hx229_0
   try clear hx229_1
   try clear hx230_0
   try clear hx230_1
   try clear p2
   try clear p224
   try clear p225
   try clear p226
   try clear p227
   try clear p228
   try clear p229
   try clear p230
   try clear q2
   try clear q224
   try clear q225
   try clear q226
   try clear q227
   try clear q228
   try clear q229
   try clear q230
   obtain ⟨kq, x39_8, rfl, HA, HJ8, ⟨mc8, rfl⟩⟩ := hcut
   cases kq with
   | zero => exact absurd HA.out (by simp [spec_TermOk.j2])
   | succ kj8 =>
    have H := HA.out
    clear HA
    simp only [spec_TermOk.j2] at H
    by_cases c15 : x39_8 = true
    ·subst c15
     rw [if_pos rfl] at H
     have H' := mk_ H
     clear H
     go_wp2
     go_roundg kj8
     case measure => have := HK1.out; have := HJ3.out; have := HJ8.out; omega
     case rel => exact ⟨(wrap64 (x5_1 + 1)), (wrap64 (x6_1 + 1)), sm_, sm_, H', ⟨by have := HK1.out; have := HJ3.out; have := HJ8.out; omega⟩, by repeat (first | exact Drawn0.refl _ | apply Drawn0.step)⟩
    replace c15 := Bool.eq_false_iff.mpr c15
    subst c15
    rw [if_neg Bool.false_ne_true] at H
    have HC16 := mk_ H
    clear H
    go_upto_region 10 with (fail)
    go_cut [75] (fun v75 wc => ∃ (kq : Nat) (x75_15 : Bool), v75 = .bool x75_15 ∧ Aside0 (spec_TermOk.j3 kq a0 l1 x5_1 x6_1 x75_15 = some r) ∧ Aside0 (kq ≤ kj8) ∧ Drawn0 w wc)
    case first =>
     have H := HC16.out
     clear HC16
     by_cases c17 : 0 ≤ x6_1
     rotate_left
     ·rw [if_neg c17] at H
      exact absurd H (by simp)
     rw [if_pos c17] at H
     have c17b0 : decide (0 ≤ x6_1) = true := decide_eq_true c17
     clear c17
     (first | rw [c17b0] | (simp only [i64_w, i32_w]; rw [c17b0]) | skip)
     by_cases c18 : x6_1 < (l1.length : Int)
     rotate_left
     ·rw [if_neg c18] at H
      exact absurd H (by simp)
     rw [if_pos c18] at H
     have c18b0 : decide (x6_1 < (l1.length : Int)) = true := decide_eq_true c18
     clear c18
     by_cases c19 : (((rd_T82 l1 x6_1).f0) == 2 && (((rd_T82 l1 x6_1).f1) == 0)) = true
     ·rw [if_pos c19] at H
      have c19b0 : (((rd_T82 l1 x6_1).f0) == 2 && (((rd_T82 l1 x6_1).f1) == 0)) = true := c19
      (try (have c19b1 : decide (((rd_T82 l1 x6_1).f0) = 2 && (((rd_T82 l1 x6_1).f1) == 0)) = true := by simpa using c19))
      (try (have c19b2 : (((rd_T82 l1 x6_1).f0) == 2 && (((rd_T82 l1 x6_1).f1) == 0)) = true := by simpa using c19))
      clear c19
      have H' := mk_ H
      clear H
      have p231 : 0 ≤ (x6_1 : Int) := oa_
      have q231 : x6_1 < (l1.length : Int) := oa_
      obtain ⟨ad231, e231, hx231_0, hx231_1⟩ := at_T82 HR1.out x6_1 p231 q231
      cases e231
      replace p231 := eq_true p231
      replace q231 := eq_true q231
      go_wp2
      go_meet
      case rel => exact ⟨_, (decide (x5_1 ≥ 1)), sm_, H', ⟨by have := HK1.out; have := HJ3.out; have := HJ8.out; first | omega | exact Nat.le_refl _⟩, by repeat (first | exact Drawn0.refl _ | apply Drawn0.step)⟩
     rw [if_neg c19] at H
     have c19b0 : (((rd_T82 l1 x6_1).f0) == 2 && (((rd_T82 l1 x6_1).f1) == 0)) = false := by simpa using c19
     (try (have c19b1 : decide (((rd_T82 l1 x6_1).f0) = 2 && (((rd_T82 l1 x6_1).f1) == 0)) = false := by simpa using c19))
     (try (have c19b2 : (((rd_T82 l1 x6_1).f0) == 2 && (((rd_T82 l1 x6_1).f1) == 0)) = false := by simpa using c19))
     (try (have c19b3 : ¬ (((rd_T82 l1 x6_1).f0) = 2 && (((rd_T82 l1 x6_1).f1) == 0)) := by simpa using c19))
     clear c19
     have H' := mk_ H
     clear H
     have p231 : 0 ≤ (x6_1 : Int) := oa_
     have q231 : x6_1 < (l1.length : Int) := oa_
     obtain ⟨ad231, e231, hx231_0, hx231_1⟩ := at_T82 HR1.out x6_1 p231 q231
     cases e231
     replace p231 := eq_true p231
     replace q231 := eq_true q231
     go_wp2
     go_meet
     case rel => exact ⟨_, (false), sm_, H', ⟨by have := HK1.out; have := HJ3.out; have := HJ8.out; first | omega | exact Nat.le_refl _⟩, by repeat (first | exact Drawn0.refl _ | apply Drawn0.step)⟩
    clear HC16
    try clear c1
    try clear p2
    try clear q2
    try clear hx2
    try clear c3
    try clear c3b0
    try clear c5
    try clear c5b0
    try clear c6
    try clear c6b0
    try clear c6b1
    try clear p6
    try clear c7
    try clear c7b0
    try clear c8
    try clear c10
    try clear c10b0
    try clear c11
    try clear c11b0
    try clear c12
    try clear c12b0
    try clear c12b1
    try clear c13
    try clear c13b0
    try clear c14
    try clear c14b0
    try clear c15
    try clear c17
    try clear c17b0
    try clear c18
    try clear c18b0
    try clear c19
    try clear c19b0
    try clear c19b1
    try clear c19b2
    try clear hx224_0
    try clear hx224_1
    try clear hx225_0
    try clear hx225_1
    try clear hx226_0
    try clear hx226_1
    try clear hx227_0
    try clear hx227_1
    try clear hx228_0
    try clear hx228_1
    try clear hx229_0
    try clear hx229_1
    try clear hx230_0
    try clear hx230_1
    try clear hx231_0
    try clear hx231_1
    try clear p2
    try clear p224
    try clear p225
    try clear p226
    try clear p227
    try clear p228
    try clear p229
    try clear p230
    try clear p231
    try clear p6
    try clear q2
    try clear q224
    try clear q225
    try clear q226
    try clear q227
    try clear q228
    try clear q229
    try clear q230
    try clear q231
    obtain ⟨kq, x75_15, rfl, HA, HJ15, ⟨mc15, rfl⟩⟩ := hcut
    cases kq with
    | zero => exact absurd HA.out (by simp [spec_TermOk.j3])
    | succ kj15 =>
     have H := HA.out
     clear HA
     simp only [spec_TermOk.j3] at H
     by_cases c20 : x75_15 = true
     ·subst c20
      rw [if_pos rfl] at H
      have H' := mk_ H
      clear H
      go_wp2
      go_roundg kj15
      case measure => have := HK1.out; have := HJ3.out; have := HJ8.out; have := HJ15.out; omega
      case rel => exact ⟨(x5_1), (wrap64 (x6_1 + 1)), sm_, sm_, H', ⟨by have := HK1.out; have := HJ3.out; have := HJ8.out; have := HJ15.out; omega⟩, by repeat (first | exact Drawn0.refl _ | apply Drawn0.step)⟩
     replace c20 := Bool.eq_false_iff.mpr c20
     subst c20
     rw [if_neg Bool.false_ne_true] at H
     by_cases c21 : 0 ≤ x6_1
     rotate_left
     ·rw [if_neg c21] at H
      exact absurd H (by simp)
     rw [if_pos c21] at H
     have c21b0 : decide (0 ≤ x6_1) = true := decide_eq_true c21
     clear c21
     by_cases c22 : x6_1 < (l1.length : Int)
     rotate_left
     ·rw [if_neg c22] at H
      exact absurd H (by simp)
     rw [if_pos c22] at H
     have c22b0 : decide (x6_1 < (l1.length : Int)) = true := decide_eq_true c22
     clear c22
     replace H := Option.bind_eq_some_iff.mp H
     obtain ⟨t233, A230, H⟩ := H
     try dsimp only at H
     have A23 := mk_ A230
     clear A230
     by_cases c24 : t233 = true
     rotate_left
     ·replace c24 := Bool.eq_false_iff.mpr c24
      subst c24
      rw [if_neg Bool.false_ne_true] at H
      obtain rfl := Option.some.inj H
      have p232 : 0 ≤ (x6_1 : Int) := oa_
      have q232 : x6_1 < (l1.length : Int) := oa_
      obtain ⟨ad232, e232, hx232_0, hx232_1⟩ := at_T82 HR1.out x6_1 p232 q232
      cases e232
      replace p232 := eq_true p232
      replace q232 := eq_true q232
      go_wp2_with (first | ((with_reducible refine gate_callee (f := 80) rfl ?_); refine goesL_ (some 92) rfl rfl Tryd.func80 (by kernel_rfl) rfl #[.int .i64 ((rd_T82 l1 x6_1).f0), .int .i64 3, .int .i64 5] rfl gl_ ?_; (with_reducible refine (spec_l1In.calls ((rd_T82 l1 x6_1).f0) 3 5 false _ A23.out).mono ?_); rintro e w' ⟨rfl, ⟨nd, rfl⟩⟩; refine ⟨_, rfl, ?_⟩))
      go_ret
      exact ⟨sm_, by repeat (first | exact Drawn0.refl _ | apply Drawn0.step)⟩
     subst c24
     rw [if_pos rfl] at H
     by_cases c25 : ((rd_T82 l1 x6_1).f1) = 0
     rotate_left
     ·rw [if_neg c25] at H
      have c25b0 : (((rd_T82 l1 x6_1).f1) == 0) = false := beq_eq_false_iff_ne.mpr c25
      have c25b1 : (((rd_T82 l1 x6_1).f1) != 0) = true := bne_iff_ne.mpr c25
      obtain rfl := Option.some.inj H
      have p232 : 0 ≤ (x6_1 : Int) := oa_
      have q232 : x6_1 < (l1.length : Int) := oa_
      obtain ⟨ad232, e232, hx232_0, hx232_1⟩ := at_T82 HR1.out x6_1 p232 q232
      cases e232
      replace p232 := eq_true p232
      replace q232 := eq_true q232
      go_wp2_with (first | ((with_reducible refine gate_callee (f := 80) rfl ?_); refine goesL_ (some 92) rfl rfl Tryd.func80 (by kernel_rfl) rfl #[.int .i64 ((rd_T82 l1 x6_1).f0), .int .i64 3, .int .i64 5] rfl gl_ ?_; (with_reducible refine (spec_l1In.calls ((rd_T82 l1 x6_1).f0) 3 5 true _ A23.out).mono ?_); rintro e w' ⟨rfl, ⟨nd, rfl⟩⟩; refine ⟨_, rfl, ?_⟩; have p234 : 0 ≤ (x6_1 : Int) := oa_; have q234 : x6_1 < (l1.length : Int) := oa_; obtain ⟨ad234, e234, hx234_0, hx234_1⟩ := at_T82 HR1.out x6_1 p234 q234; obtain rfl : ad232 = ad234 := (by injection e234); replace p234 := eq_true p234; replace q234 := eq_true q234))
      go_ret
      exact ⟨sm_, by repeat (first | exact Drawn0.refl _ | apply Drawn0.step)⟩
     rw [if_pos c25] at H
     have c25b0 : (((rd_T82 l1 x6_1).f1) == 0) = true := beq_iff_eq.mpr c25
     have c25b1 : (((rd_T82 l1 x6_1).f1) != 0) = false := bne_eq_false_iff_eq.mpr c25
     clear c25
     by_cases c26 : x5_1 ≥ 2
     rotate_left
     ·rw [if_neg c26] at H
      have c26b0 : decide (2 ≤ x5_1) = false := decide_eq_false c26
      clear c26
      obtain rfl := Option.some.inj H
      have p232 : 0 ≤ (x6_1 : Int) := oa_
      have q232 : x6_1 < (l1.length : Int) := oa_
      obtain ⟨ad232, e232, hx232_0, hx232_1⟩ := at_T82 HR1.out x6_1 p232 q232
      cases e232
      replace p232 := eq_true p232
      replace q232 := eq_true q232
      go_wp2_with (first | ((with_reducible refine gate_callee (f := 80) rfl ?_); refine goesL_ (some 92) rfl rfl Tryd.func80 (by kernel_rfl) rfl #[.int .i64 ((rd_T82 l1 x6_1).f0), .int .i64 3, .int .i64 5] rfl gl_ ?_; (with_reducible refine (spec_l1In.calls ((rd_T82 l1 x6_1).f0) 3 5 true _ A23.out).mono ?_); rintro e w' ⟨rfl, ⟨nd, rfl⟩⟩; refine ⟨_, rfl, ?_⟩; have p234 : 0 ≤ (x6_1 : Int) := oa_; have q234 : x6_1 < (l1.length : Int) := oa_; obtain ⟨ad234, e234, hx234_0, hx234_1⟩ := at_T82 HR1.out x6_1 p234 q234; obtain rfl : ad232 = ad234 := (by injection e234); replace p234 := eq_true p234; replace q234 := eq_true q234))
      go_ret
      exact ⟨sm_, by repeat (first | exact Drawn0.refl _ | apply Drawn0.step)⟩
     rw [if_pos c26] at H
     have c26b0 : decide (2 ≤ x5_1) = true := decide_eq_true c26
     clear c26
     have H' := mk_ H
     clear H
     have p232 : 0 ≤ (x6_1 : Int) := oa_
     have q232 : x6_1 < (l1.length : Int) := oa_
     obtain ⟨ad232, e232, hx232_0, hx232_1⟩ := at_T82 HR1.out x6_1 p232 q232
     cases e232
     replace p232 := eq_true p232
     replace q232 := eq_true q232
     go_wp2_with (first | ((with_reducible refine gate_callee (f := 80) rfl ?_); refine goesL_ (some 92) rfl rfl Tryd.func80 (by kernel_rfl) rfl #[.int .i64 ((rd_T82 l1 x6_1).f0), .int .i64 3, .int .i64 5] rfl gl_ ?_; (with_reducible refine (spec_l1In.calls ((rd_T82 l1 x6_1).f0) 3 5 true _ A23.out).mono ?_); rintro e w' ⟨rfl, ⟨nd, rfl⟩⟩; refine ⟨_, rfl, ?_⟩; have p234 : 0 ≤ (x6_1 : Int) := oa_; have q234 : x6_1 < (l1.length : Int) := oa_; obtain ⟨ad234, e234, hx234_0, hx234_1⟩ := at_T82 HR1.out x6_1 p234 q234; obtain rfl : ad232 = ad234 := (by injection e234); replace p234 := eq_true p234; replace q234 := eq_true q234))
     go_roundg kj15
     case measure => have := HK1.out; have := HJ3.out; have := HJ8.out; have := HJ15.out; omega
     case rel => exact ⟨(wrap64 (x5_1 - 1)), (wrap64 (x6_1 + 1)), sm_, sm_, H', ⟨by have := HK1.out; have := HJ3.out; have := HJ8.out; have := HJ15.out; omega⟩, by repeat (first | exact Drawn0.refl _ | apply Drawn0.step)⟩

/-! ### spec_ClaimOk: function 79 -/
def spec_ClaimOk.f (k : Nat) (a0 : Int) (a1_0 : Int) (l1_1 : List (S82)) : Option (Bool) := if a1_0 ≥ 0 then (if a1_0 < a0 then ((spec_TermOk.f k a0 l1_1).bind fun t236 => (if t236 = true then (some (decide ((l1_1.length : Int) ≤ 13))) else (some false))) else (some false)) else (some false)
set_option maxHeartbeats 8000000 in
set_option maxRecDepth 100000 in
theorem spec_ClaimOk.calls (k : Nat) (a0 : Int) (a1_0 : Int) (A1_1 : Option Addr) (c1_1 : Nat) (l1_1 : List (S82)) (r : Bool) (w : World) (hr1_1 : Kd.C k82 w A1_1 l1_1.length l1_1) (hc1_1 : l1_1.length ≤ c1_1) (h : spec_ClaimOk.f k a0 a1_0 l1_1 = some r) :
  Calls Tryd.prog 79 #[.int .i64 a0, .agg #[.int .i64 a1_0, .slice A1_1 l1_1.length c1_1]] w fun e w' => e = .returned (.bool r) ∧ Below w.heap.size w w' := by
 have hu79 := Tryd.underlying79
 have HR1_1 := mk_ hr1_1
 have HC1_1 := mk_ hc1_1
 clear hr1_1 hc1_1
 have HB := mk_ (Below.refl w.heap.size w)
 unfold spec_ClaimOk.f at h
 have H := h
 clear h
 by_cases c3 : a1_0 ≥ 0
 rotate_left
 ·rw [if_neg c3] at H
  have c3b0 : decide (0 ≤ a1_0) = false := decide_eq_false c3
  clear c3
  obtain rfl := Option.some.inj H
  go_enter Tryd.func79, Tryd.ntmps79
  go_wp2_with (first | ((with_reducible refine gate_dst (N := 3) rfl ?_); (try (refine gate_guard (by rfl) ?_; dsimp only)); refine bx_ 3 #[.int .i64 a1_0, .slice A1_1 l1_1.length c1_1] 79 ?_; intro gb235 hg w13 hbox hb; have BK235 := mk_ (hbox); have GW235 := mk_ (gb_ hg HB.out); have GE235 := mk_ (gb_ hg HB.out); replace HB := mk_ (below_step (below_at HB.out) hb); clear hb hbox hg; have hcz14_0 := blk_cell BK235.out 0; have hcz14_1 := blk_cell BK235.out 1; have hfz14_0 := blk_frozen BK235.out 0; have hfz14_1 := blk_frozen BK235.out 1))
  go_ret
  exact ⟨er_, at_ HB.out⟩
 rw [if_pos c3] at H
 have c3b0 : decide (0 ≤ a1_0) = true := decide_eq_true c3
 clear c3
 by_cases c4 : a1_0 < a0
 rotate_left
 ·rw [if_neg c4] at H
  have c4b0 : decide (a1_0 < a0) = false := decide_eq_false c4
  clear c4
  obtain rfl := Option.some.inj H
  go_enter Tryd.func79, Tryd.ntmps79
  go_wp2_with (first | ((with_reducible refine gate_dst (N := 3) rfl ?_); (try (refine gate_guard (by rfl) ?_; dsimp only)); refine bx_ 3 #[.int .i64 a1_0, .slice A1_1 l1_1.length c1_1] 79 ?_; intro gb235 hg w11 hbox hb; have BK235 := mk_ (hbox); have GW235 := mk_ (gb_ hg HB.out); have GE235 := mk_ (gb_ hg HB.out); replace HB := mk_ (below_step (below_at HB.out) hb); clear hb hbox hg; have hcz12_0 := blk_cell BK235.out 0; have hcz12_1 := blk_cell BK235.out 1; have hfz12_0 := blk_frozen BK235.out 0; have hfz12_1 := blk_frozen BK235.out 1))
  go_ret
  exact ⟨er_, at_ HB.out⟩
 rw [if_pos c4] at H
 have c4b0 : decide (a1_0 < a0) = true := decide_eq_true c4
 clear c4
 replace H := Option.bind_eq_some_iff.mp H
 obtain ⟨t236, A50, H⟩ := H
 try dsimp only at H
 have A5 := mk_ A50
 clear A50
 by_cases c6 : t236 = true
 ·subst c6
  rw [if_pos rfl] at H
  obtain rfl := Option.some.inj H
  go_enter Tryd.func79, Tryd.ntmps79
  go_wp2_with (first | ((with_reducible refine gate_dst (N := 3) rfl ?_); (try (refine gate_guard (by rfl) ?_; dsimp only)); refine bx_ 3 #[.int .i64 a1_0, .slice A1_1 l1_1.length c1_1] 79 ?_; intro gb235 hg w7 hbox hb; have BK235 := mk_ (hbox); have GW235 := mk_ (gb_ hg HB.out); have GE235 := mk_ (gb_ hg HB.out); replace HB := mk_ (below_step (below_at HB.out) hb); clear hb hbox hg; have hcz8_0 := blk_cell BK235.out 0; have hcz8_1 := blk_cell BK235.out 1; have hfz8_0 := blk_frozen BK235.out 0; have hfz8_1 := blk_frozen BK235.out 1) | (go_at_call 58; (with_reducible refine (spec_TermOk.calls k a0 _ _ l1_1 true _ ?side1 ?side2 A5.out).mono ?_); (case side1 => exact Kd.C_below (Kd.C_below HR1_1.out HB.out) lt_); (case side2 => exact HC1_1.out); rintro e w' ⟨rfl, ⟨nd, rfl⟩⟩))
  go_ret
  exact ⟨er_, at_ HB.out⟩
 replace c6 := Bool.eq_false_iff.mpr c6
 subst c6
 rw [if_neg Bool.false_ne_true] at H
 obtain rfl := Option.some.inj H
 go_enter Tryd.func79, Tryd.ntmps79
 go_wp2_with (first | ((with_reducible refine gate_dst (N := 3) rfl ?_); (try (refine gate_guard (by rfl) ?_; dsimp only)); refine bx_ 3 #[.int .i64 a1_0, .slice A1_1 l1_1.length c1_1] 79 ?_; intro gb235 hg w9 hbox hb; have BK235 := mk_ (hbox); have GW235 := mk_ (gb_ hg HB.out); have GE235 := mk_ (gb_ hg HB.out); replace HB := mk_ (below_step (below_at HB.out) hb); clear hb hbox hg; have hcz10_0 := blk_cell BK235.out 0; have hcz10_1 := blk_cell BK235.out 1; have hfz10_0 := blk_frozen BK235.out 0; have hfz10_1 := blk_frozen BK235.out 1) | (go_at_call 58; (with_reducible refine (spec_TermOk.calls k a0 _ _ l1_1 false _ ?side1 ?side2 A5.out).mono ?_); (case side1 => exact Kd.C_below (Kd.C_below HR1_1.out HB.out) lt_); (case side2 => exact HC1_1.out); rintro e w' ⟨rfl, ⟨nd, rfl⟩⟩))
 go_ret
 exact ⟨er_, at_ HB.out⟩

end Go.Proofs.YtcaogllnbpmcgaaDoor.P

/- Go's functions come to just the answers of the Lean functions told here. -/
import Derived.Test.YtcaogllnbpmcgaaPx1
import Derived.Test.YtcaogllnbpmcgaaPx2
namespace Go.Proofs.Ytcaogllnbpmcgaa.P
open Go.RowKit Go.Proofs.YtcaogllnbpmcgaaW.PrintWords Go.Proofs.YtcaogllnbpmcgaaW.PrintLast Go.Proofs.YtcaogllnbpmcgaaW.PrintMore
attribute [local go_sem] max2_int min2_int max_two min_two max_three min_three max_four min_four
set_option linter.unusedVariables false
set_option linter.unusedSimpArgs false
attribute [local go_sem high] eqA47
mutual
def spec_TermOk.l0 : Nat → Int → List (S47) → Int → Int → Option (Bool)
 | 0, _, _, _, _ => none
 | k + 1, x0, x1, x5, x6 => if x6 < (x1.length : Int) then (if 0 ≤ x6 then (if ((rd_T47 x1 x6).f0) = 0 then (if ((rd_T47 x1 x6).f1) ≥ 0 then (spec_TermOk.j1 k x0 x1 x5 x6 (decide (((rd_T47 x1 x6).f1) < x0))) else (spec_TermOk.j1 k x0 x1 x5 x6 false)) else (spec_TermOk.j1 k x0 x1 x5 x6 false)) else (none)) else ((spec_l1In.f x0 1 4).bind fun t104 => (if t104 = true then (if x5 = 1 then (some (decide ((x1.length : Int) ≤ 15))) else (some false)) else (some false)))
def spec_TermOk.j1 : Nat → Int → List (S47) → Int → Int → Bool → Option (Bool)
 | 0, _, _, _, _, _ => none
 | k + 1, x0, x1, x5, x6, x13 => if x13 = true then (spec_TermOk.l0 k x0 x1 (wrap64 (x5 + 1)) (wrap64 (x6 + 1))) else (if 0 ≤ x6 then (if x6 < (x1.length : Int) then (if ((rd_T47 x1 x6).f0) = 1 then (if ((rd_T47 x1 x6).f1) ≥ 0 then (if ((rd_T47 x1 x6).f1) ≤ x0 then (spec_TermOk.j2 k x0 x1 x5 x6 true) else (spec_TermOk.j2 k x0 x1 x5 x6 ((wrap64 (((rd_T47 x1 x6).f1) - 1)) == x0))) else (spec_TermOk.j2 k x0 x1 x5 x6 false)) else (spec_TermOk.j2 k x0 x1 x5 x6 false)) else (none)) else (none))
def spec_TermOk.j2 : Nat → Int → List (S47) → Int → Int → Bool → Option (Bool)
 | 0, _, _, _, _, _ => none
 | k + 1, x0, x1, x5, x6, x39 => if x39 = true then (spec_TermOk.l0 k x0 x1 (wrap64 (x5 + 1)) (wrap64 (x6 + 1))) else (if 0 ≤ x6 then (if x6 < (x1.length : Int) then (if (((rd_T47 x1 x6).f0) == 2 && (((rd_T47 x1 x6).f1) == 0)) = true then (spec_TermOk.j3 k x0 x1 x5 x6 (decide (x5 ≥ 1))) else (spec_TermOk.j3 k x0 x1 x5 x6 false)) else (none)) else (none))
def spec_TermOk.j3 : Nat → Int → List (S47) → Int → Int → Bool → Option (Bool)
 | 0, _, _, _, _, _ => none
 | k + 1, x0, x1, x5, x6, x75 => if x75 = true then (spec_TermOk.l0 k x0 x1 x5 (wrap64 (x6 + 1))) else (if 0 ≤ x6 then (if x6 < (x1.length : Int) then ((spec_l1In.f ((rd_T47 x1 x6).f0) 3 5).bind fun t114 => (if t114 = true then (if ((rd_T47 x1 x6).f1) = 0 then (if x5 ≥ 2 then (spec_TermOk.l0 k x0 x1 (wrap64 (x5 - 1)) (wrap64 (x6 + 1))) else (some false)) else (some false)) else (some false))) else (none)) else (none))
end
def spec_TermOk.f (k : Nat) (a0 : Int) (l1 : List (S47)) : Option (Bool) := spec_TermOk.l0 k a0 l1 0 0
set_option maxHeartbeats 8000000 in
set_option maxRecDepth 100000 in
theorem spec_TermOk.calls (k : Nat) (a0 : Int) (A1 : Option Addr) (c1 : Nat) (l1 : List (S47)) (r : Bool) (w : World) (hr1 : Kd.C k47 w A1 l1.length l1) (hc1 : l1.length ≤ c1) (h : spec_TermOk.f k a0 l1 = some r) :
  Calls Try.prog 28 #[.int .i64 a0, .slice A1 l1.length c1] w fun e w' => e = .returned (.bool r) ∧ Drawn0 w w' := by
 have hu47 := Try.underlying47
 have HR1 := mk_ hr1
 have HC1 := mk_ hc1
 clear hr1 hc1
 have H : (spec_TermOk.l0 k a0 l1 0 0) = some r := h
 clear h
 have H' := mk_ H
 clear H
 go_enter Try.func28, Try.ntmps28
 go_wp2
 go_loopg [5, 6] k (fun kq v5 v6 w' => ∃ (x5_1 : Int) (x6_1 : Int), v5 = .int .i64 x5_1 ∧ v6 = .int .i64 x6_1 ∧ Aside0 (spec_TermOk.l0 kq a0 l1 x5_1 x6_1 = some r) ∧ Aside0 (kq ≤ k) ∧ Drawn0 w w')
 case atStart => exact ⟨(0), (0), sm_, sm_, H', ⟨Nat.le_refl _⟩, by repeat (first | exact Drawn0.refl _ | apply Drawn0.step)⟩
 clear H'
 try clear c1
 try clear c2
 try clear p2
 obtain ⟨x5_1, x6_1, rfl, rfl, HA, HK1, ⟨m1, rfl⟩⟩ := hrel
 cases gk with
 | zero => exact absurd HA.out (by simp [spec_TermOk.l0])
 | succ k1 =>
  have H := HA.out
  clear HA
  simp only [spec_TermOk.l0] at H
  by_cases c3 : x6_1 < (l1.length : Int)
  rotate_left
  ·rw [if_neg c3] at H
   have c3b0 : decide (x6_1 < (l1.length : Int)) = false := decide_eq_false c3
   clear c3
   replace H := Option.bind_eq_some_iff.mp H
   obtain ⟨t104, A270, H⟩ := H
   try dsimp only at H
   have A27 := mk_ A270
   clear A270
   by_cases c28 : t104 = true
   rotate_left
   ·replace c28 := Bool.eq_false_iff.mpr c28
    subst c28
    rw [if_neg Bool.false_ne_true] at H
    obtain rfl := Option.some.inj H
    go_wp2_with (first | ((with_reducible refine gate_callee (f := 47) rfl ?_); refine goesL_ (some 108) rfl rfl Try.func47 (by kernel_rfl) rfl #[.int .i64 a0, .int .i64 1, .int .i64 4] rfl gl_ ?_; (with_reducible refine (spec_l1In.calls a0 1 4 false _ A27.out).mono ?_); rintro e w' ⟨rfl, ⟨nd, rfl⟩⟩; refine ⟨_, rfl, ?_⟩))
    go_ret
    exact ⟨sm_, by repeat (first | exact Drawn0.refl _ | apply Drawn0.step)⟩
   subst c28
   rw [if_pos rfl] at H
   by_cases c29 : x5_1 = 1
   ·rw [if_pos c29] at H
    have c29b0 : (x5_1 == 1) = true := beq_iff_eq.mpr c29
    have c29b1 : (x5_1 != 1) = false := bne_eq_false_iff_eq.mpr c29
    clear c29
    obtain rfl := Option.some.inj H
    go_wp2_with (first | ((with_reducible refine gate_callee (f := 47) rfl ?_); refine goesL_ (some 108) rfl rfl Try.func47 (by kernel_rfl) rfl #[.int .i64 a0, .int .i64 1, .int .i64 4] rfl gl_ ?_; (with_reducible refine (spec_l1In.calls a0 1 4 true _ A27.out).mono ?_); rintro e w' ⟨rfl, ⟨nd, rfl⟩⟩; refine ⟨_, rfl, ?_⟩))
    go_ret
    exact ⟨sm_, by repeat (first | exact Drawn0.refl _ | apply Drawn0.step)⟩
   rw [if_neg c29] at H
   have c29b0 : (x5_1 == 1) = false := beq_eq_false_iff_ne.mpr c29
   have c29b1 : (x5_1 != 1) = true := bne_iff_ne.mpr c29
   obtain rfl := Option.some.inj H
   go_wp2_with (first | ((with_reducible refine gate_callee (f := 47) rfl ?_); refine goesL_ (some 108) rfl rfl Try.func47 (by kernel_rfl) rfl #[.int .i64 a0, .int .i64 1, .int .i64 4] rfl gl_ ?_; (with_reducible refine (spec_l1In.calls a0 1 4 true _ A27.out).mono ?_); rintro e w' ⟨rfl, ⟨nd, rfl⟩⟩; refine ⟨_, rfl, ?_⟩))
   go_ret
   exact ⟨sm_, by repeat (first | exact Drawn0.refl _ | apply Drawn0.step)⟩
  rw [if_pos c3] at H
  have c3b0 : decide (x6_1 < (l1.length : Int)) = true := decide_eq_true c3
  clear c3
  have HC4 := mk_ H
  clear H
  go_upto_region 6 with (fail)
  go_cut [13] (fun v13 wc => ∃ (kq : Nat) (x13_3 : Bool), v13 = .bool x13_3 ∧ Aside0 (spec_TermOk.j1 kq a0 l1 x5_1 x6_1 x13_3 = some r) ∧ Aside0 (kq ≤ k1) ∧ Drawn0 w wc)
  case first =>
   have H := HC4.out
   clear HC4
   by_cases c5 : 0 ≤ x6_1
   rotate_left
   ·rw [if_neg c5] at H
    exact absurd H (by simp)
   rw [if_pos c5] at H
   have c5b0 : decide (0 ≤ x6_1) = true := decide_eq_true c5
   clear c5
   (first | rw [c5b0] | (simp only [i64_w, i32_w]; rw [c5b0]) | skip)
   by_cases c6 : ((rd_T47 l1 x6_1).f0) = 0
   rotate_left
   ·rw [if_neg c6] at H
    have c6b0 : (((rd_T47 l1 x6_1).f0) == 0) = false := beq_eq_false_iff_ne.mpr c6
    have c6b1 : (((rd_T47 l1 x6_1).f0) != 0) = true := bne_iff_ne.mpr c6
    have H' := mk_ H
    clear H
    have p105 : 0 ≤ (x6_1 : Int) := oa_
    have q105 : x6_1 < (l1.length : Int) := oa_
    obtain ⟨ad105, e105, hx105_0, hx105_1⟩ := at_T47 HR1.out x6_1 p105 q105
    cases e105
    replace p105 := eq_true p105
    replace q105 := eq_true q105
    go_wp2
    go_meet
    case rel => exact ⟨_, (false), sm_, H', ⟨by have := HK1.out; first | omega | exact Nat.le_refl _⟩, by repeat (first | exact Drawn0.refl _ | apply Drawn0.step)⟩
   rw [if_pos c6] at H
   have c6b0 : (((rd_T47 l1 x6_1).f0) == 0) = true := beq_iff_eq.mpr c6
   have c6b1 : (((rd_T47 l1 x6_1).f0) != 0) = false := bne_eq_false_iff_eq.mpr c6
   clear c6
   by_cases c7 : ((rd_T47 l1 x6_1).f1) ≥ 0
   rotate_left
   ·rw [if_neg c7] at H
    have c7b0 : decide (0 ≤ ((rd_T47 l1 x6_1).f1)) = false := decide_eq_false c7
    clear c7
    have H' := mk_ H
    clear H
    have p105 : 0 ≤ (x6_1 : Int) := oa_
    have q105 : x6_1 < (l1.length : Int) := oa_
    obtain ⟨ad105, e105, hx105_0, hx105_1⟩ := at_T47 HR1.out x6_1 p105 q105
    cases e105
    replace p105 := eq_true p105
    replace q105 := eq_true q105
    have p106 : 0 ≤ (x6_1 : Int) := oa_
    have q106 : x6_1 < (l1.length : Int) := oa_
    obtain ⟨ad106, e106, hx106_0, hx106_1⟩ := at_T47 HR1.out x6_1 p106 q106
    obtain rfl : ad105 = ad106 := (by injection e106)
    replace p106 := eq_true p106
    replace q106 := eq_true q106
    go_wp2
    go_meet
    case rel => exact ⟨_, (false), sm_, H', ⟨by have := HK1.out; first | omega | exact Nat.le_refl _⟩, by repeat (first | exact Drawn0.refl _ | apply Drawn0.step)⟩
   rw [if_pos c7] at H
   have c7b0 : decide (0 ≤ ((rd_T47 l1 x6_1).f1)) = true := decide_eq_true c7
   clear c7
   have H' := mk_ H
   clear H
   have p105 : 0 ≤ (x6_1 : Int) := oa_
   have q105 : x6_1 < (l1.length : Int) := oa_
   obtain ⟨ad105, e105, hx105_0, hx105_1⟩ := at_T47 HR1.out x6_1 p105 q105
   cases e105
   replace p105 := eq_true p105
   replace q105 := eq_true q105
   have p106 : 0 ≤ (x6_1 : Int) := oa_
   have q106 : x6_1 < (l1.length : Int) := oa_
   obtain ⟨ad106, e106, hx106_0, hx106_1⟩ := at_T47 HR1.out x6_1 p106 q106
   obtain rfl : ad105 = ad106 := (by injection e106)
   replace p106 := eq_true p106
   replace q106 := eq_true q106
   have p107 : 0 ≤ (x6_1 : Int) := oa_
   have q107 : x6_1 < (l1.length : Int) := oa_
   obtain ⟨ad107, e107, hx107_0, hx107_1⟩ := at_T47 HR1.out x6_1 p107 q107
   obtain rfl : ad105 = ad107 := (by injection e107)
   replace p107 := eq_true p107
   replace q107 := eq_true q107
   go_wp2
   go_meet
   case rel => exact ⟨_, (decide (((rd_T47 l1 x6_1).f1) < a0)), sm_, H', ⟨by have := HK1.out; first | omega | exact Nat.le_refl _⟩, by repeat (first | exact Drawn0.refl _ | apply Drawn0.step)⟩
  clear HC4
  try clear c1
  try clear p1
  try clear q1
  try clear hx1
  try clear c2
  try clear p2
  try clear c3
  try clear c3b0
  try clear c5
  try clear c5b0
  try clear c6
  try clear c6b0
  try clear c6b1
  try clear c7
  try clear c7b0
  try clear hx105_0
  try clear hx105_1
  try clear hx106_0
  try clear hx106_1
  try clear hx107_0
  try clear hx107_1
  try clear p105
  try clear p106
  try clear p107
  try clear p2
  try clear q105
  try clear q106
  try clear q107
  obtain ⟨kq, x13_3, rfl, HA, HJ3, ⟨mc3, rfl⟩⟩ := hcut
  cases kq with
  | zero => exact absurd HA.out (by simp [spec_TermOk.j1])
  | succ kj3 =>
   have H := HA.out
   clear HA
   simp only [spec_TermOk.j1] at H
   by_cases c8 : x13_3 = true
   ·subst c8
    rw [if_pos rfl] at H
    have H' := mk_ H
    clear H
    go_wp2
    go_roundg kj3
    case measure => have := HK1.out; have := HJ3.out; omega
    case rel => exact ⟨(wrap64 (x5_1 + 1)), (wrap64 (x6_1 + 1)), sm_, sm_, H', ⟨by have := HK1.out; have := HJ3.out; omega⟩, by repeat (first | exact Drawn0.refl _ | apply Drawn0.step)⟩
   replace c8 := Bool.eq_false_iff.mpr c8
   subst c8
   rw [if_neg Bool.false_ne_true] at H
   have HC9 := mk_ H
   clear H
   go_upto_region 8 with (fail)
   go_cut [39] (fun v39 wc => ∃ (kq : Nat) (x39_8 : Bool), v39 = .bool x39_8 ∧ Aside0 (spec_TermOk.j2 kq a0 l1 x5_1 x6_1 x39_8 = some r) ∧ Aside0 (kq ≤ kj3) ∧ Drawn0 w wc)
   case first =>
    have H := HC9.out
    clear HC9
    by_cases c10 : 0 ≤ x6_1
    rotate_left
    ·rw [if_neg c10] at H
     exact absurd H (by simp)
    rw [if_pos c10] at H
    have c10b0 : decide (0 ≤ x6_1) = true := decide_eq_true c10
    clear c10
    (first | rw [c10b0] | (simp only [i64_w, i32_w]; rw [c10b0]) | skip)
    by_cases c11 : x6_1 < (l1.length : Int)
    rotate_left
    ·rw [if_neg c11] at H
     exact absurd H (by simp)
    rw [if_pos c11] at H
    have c11b0 : decide (x6_1 < (l1.length : Int)) = true := decide_eq_true c11
    clear c11
    by_cases c12 : ((rd_T47 l1 x6_1).f0) = 1
    rotate_left
    ·rw [if_neg c12] at H
     have c12b0 : (((rd_T47 l1 x6_1).f0) == 1) = false := beq_eq_false_iff_ne.mpr c12
     have c12b1 : (((rd_T47 l1 x6_1).f0) != 1) = true := bne_iff_ne.mpr c12
     have H' := mk_ H
     clear H
     have p108 : 0 ≤ (x6_1 : Int) := oa_
     have q108 : x6_1 < (l1.length : Int) := oa_
     obtain ⟨ad108, e108, hx108_0, hx108_1⟩ := at_T47 HR1.out x6_1 p108 q108
     cases e108
     replace p108 := eq_true p108
     replace q108 := eq_true q108
     go_wp2
     go_meet
     case rel => exact ⟨_, (false), sm_, H', ⟨by have := HK1.out; have := HJ3.out; first | omega | exact Nat.le_refl _⟩, by repeat (first | exact Drawn0.refl _ | apply Drawn0.step)⟩
    rw [if_pos c12] at H
    have c12b0 : (((rd_T47 l1 x6_1).f0) == 1) = true := beq_iff_eq.mpr c12
    have c12b1 : (((rd_T47 l1 x6_1).f0) != 1) = false := bne_eq_false_iff_eq.mpr c12
    clear c12
    by_cases c13 : ((rd_T47 l1 x6_1).f1) ≥ 0
    rotate_left
    ·rw [if_neg c13] at H
     have c13b0 : decide (0 ≤ ((rd_T47 l1 x6_1).f1)) = false := decide_eq_false c13
     clear c13
     have H' := mk_ H
     clear H
     have p108 : 0 ≤ (x6_1 : Int) := oa_
     have q108 : x6_1 < (l1.length : Int) := oa_
     obtain ⟨ad108, e108, hx108_0, hx108_1⟩ := at_T47 HR1.out x6_1 p108 q108
     cases e108
     replace p108 := eq_true p108
     replace q108 := eq_true q108
     have p109 : 0 ≤ (x6_1 : Int) := oa_
     have q109 : x6_1 < (l1.length : Int) := oa_
     obtain ⟨ad109, e109, hx109_0, hx109_1⟩ := at_T47 HR1.out x6_1 p109 q109
     obtain rfl : ad108 = ad109 := (by injection e109)
     replace p109 := eq_true p109
     replace q109 := eq_true q109
     go_wp2
     go_meet
     case rel => exact ⟨_, (false), sm_, H', ⟨by have := HK1.out; have := HJ3.out; first | omega | exact Nat.le_refl _⟩, by repeat (first | exact Drawn0.refl _ | apply Drawn0.step)⟩
    rw [if_pos c13] at H
    have c13b0 : decide (0 ≤ ((rd_T47 l1 x6_1).f1)) = true := decide_eq_true c13
    clear c13
    by_cases c14 : ((rd_T47 l1 x6_1).f1) ≤ a0
    ·rw [if_pos c14] at H
     have c14b0 : decide (((rd_T47 l1 x6_1).f1) ≤ a0) = true := decide_eq_true c14
     clear c14
     have H' := mk_ H
     clear H
     have p108 : 0 ≤ (x6_1 : Int) := oa_
     have q108 : x6_1 < (l1.length : Int) := oa_
     obtain ⟨ad108, e108, hx108_0, hx108_1⟩ := at_T47 HR1.out x6_1 p108 q108
     cases e108
     replace p108 := eq_true p108
     replace q108 := eq_true q108
     have p109 : 0 ≤ (x6_1 : Int) := oa_
     have q109 : x6_1 < (l1.length : Int) := oa_
     obtain ⟨ad109, e109, hx109_0, hx109_1⟩ := at_T47 HR1.out x6_1 p109 q109
     obtain rfl : ad108 = ad109 := (by injection e109)
     replace p109 := eq_true p109
     replace q109 := eq_true q109
     have p110 : 0 ≤ (x6_1 : Int) := oa_
     have q110 : x6_1 < (l1.length : Int) := oa_
     obtain ⟨ad110, e110, hx110_0, hx110_1⟩ := at_T47 HR1.out x6_1 p110 q110
     obtain rfl : ad108 = ad110 := (by injection e110)
     replace p110 := eq_true p110
     replace q110 := eq_true q110
     go_wp2
     go_meet
     case rel => exact ⟨_, (true), sm_, H', ⟨by have := HK1.out; have := HJ3.out; first | omega | exact Nat.le_refl _⟩, by repeat (first | exact Drawn0.refl _ | apply Drawn0.step)⟩
    rw [if_neg c14] at H
    have c14b0 : decide (((rd_T47 l1 x6_1).f1) ≤ a0) = false := decide_eq_false c14
    clear c14
    have H' := mk_ H
    clear H
    have p108 : 0 ≤ (x6_1 : Int) := oa_
    have q108 : x6_1 < (l1.length : Int) := oa_
    obtain ⟨ad108, e108, hx108_0, hx108_1⟩ := at_T47 HR1.out x6_1 p108 q108
    cases e108
    replace p108 := eq_true p108
    replace q108 := eq_true q108
    have p109 : 0 ≤ (x6_1 : Int) := oa_
    have q109 : x6_1 < (l1.length : Int) := oa_
    obtain ⟨ad109, e109, hx109_0, hx109_1⟩ := at_T47 HR1.out x6_1 p109 q109
    obtain rfl : ad108 = ad109 := (by injection e109)
    replace p109 := eq_true p109
    replace q109 := eq_true q109
    have p110 : 0 ≤ (x6_1 : Int) := oa_
    have q110 : x6_1 < (l1.length : Int) := oa_
    obtain ⟨ad110, e110, hx110_0, hx110_1⟩ := at_T47 HR1.out x6_1 p110 q110
    obtain rfl : ad108 = ad110 := (by injection e110)
    replace p110 := eq_true p110
    replace q110 := eq_true q110
    have p111 : 0 ≤ (x6_1 : Int) := oa_
    have q111 : x6_1 < (l1.length : Int) := oa_
    obtain ⟨ad111, e111, hx111_0, hx111_1⟩ := at_T47 HR1.out x6_1 p111 q111
    obtain rfl : ad108 = ad111 := (by injection e111)
    replace p111 := eq_true p111
    replace q111 := eq_true q111
    go_wp2
    go_meet
    case rel => exact ⟨_, (((wrap64 (((rd_T47 l1 x6_1).f1) - 1)) == a0)), sm_, H', ⟨by have := HK1.out; have := HJ3.out; first | omega | exact Nat.le_refl _⟩, by repeat (first | exact Drawn0.refl _ | apply Drawn0.step)⟩
   clear HC9
   try clear c1
   try clear p1
   try clear q1
   try clear hx1
   try clear c2
   try clear p2
   try clear c3
   try clear c3b0
   try clear c5
   try clear c5b0
   try clear c6
   try clear c6b0
   try clear c6b1
   try clear p6
   try clear c7
   try clear c7b0
   try clear c8
   try clear c10
   try clear c10b0
   try clear p10
   try clear q10
   try clear hx10
   try clear c11
   try clear c11b0
   try clear p11
   try clear q11
   try clear hx11
   try clear c12
   try clear c12b0
   try clear c12b1
   try clear c13
   try clear c13b0
   try clear c14
   try clear c14b0
   try clear hx105_0
   try clear hx105_1
   try clear hx106_0
   try clear hx106_1
   try clear hx107_0
   try clear hx107_1
   try clear hx108_0
   try clear hx108_1
   try clear hx109_0
   try clear hx109_1
   try clear hx110_0
   try clear hx110_1
   try clear hx111_0
   try clear hx111_1
   try clear p1
   try clear p105
   try clear p106
   try clear p107
   try clear p108
   try clear p109
   try clear p110
   try clear p111
   try clear p2
   try clear q1
   try clear q105
   try clear q106
   try clear q107
   try clear q108
   try clear q109
   try clear q110
   try clear q111
   obtain ⟨kq, x39_8, rfl, HA, HJ8, ⟨mc8, rfl⟩⟩ := hcut
   cases kq with
   | zero => exact absurd HA.out (by simp [spec_TermOk.j2])
   | succ kj8 =>
    have H := HA.out
    clear HA
    simp only [spec_TermOk.j2] at H
    by_cases c15 : x39_8 = true
    ·subst c15
     rw [if_pos rfl] at H
     have H' := mk_ H
     clear H
     go_wp2
     go_roundg kj8
     case measure => have := HK1.out; have := HJ3.out; have := HJ8.out; omega
     case rel => exact ⟨(wrap64 (x5_1 + 1)), (wrap64 (x6_1 + 1)), sm_, sm_, H', ⟨by have := HK1.out; have := HJ3.out; have := HJ8.out; omega⟩, by repeat (first | exact Drawn0.refl _ | apply Drawn0.step)⟩
    replace c15 := Bool.eq_false_iff.mpr c15
    subst c15
    rw [if_neg Bool.false_ne_true] at H
    have HC16 := mk_ H
    clear H
    go_upto_region 10 with (fail)
    go_cut [75] (fun v75 wc => ∃ (kq : Nat) (x75_15 : Bool), v75 = .bool x75_15 ∧ Aside0 (spec_TermOk.j3 kq a0 l1 x5_1 x6_1 x75_15 = some r) ∧ Aside0 (kq ≤ kj8) ∧ Drawn0 w wc)
    case first =>
     have H := HC16.out
     clear HC16
     by_cases c17 : 0 ≤ x6_1
     rotate_left
     ·rw [if_neg c17] at H
      exact absurd H (by simp)
     rw [if_pos c17] at H
     have c17b0 : decide (0 ≤ x6_1) = true := decide_eq_true c17
     clear c17
     (first | rw [c17b0] | (simp only [i64_w, i32_w]; rw [c17b0]) | skip)
     by_cases c18 : x6_1 < (l1.length : Int)
     rotate_left
     ·rw [if_neg c18] at H
      exact absurd H (by simp)
     rw [if_pos c18] at H
     have c18b0 : decide (x6_1 < (l1.length : Int)) = true := decide_eq_true c18
     clear c18
     by_cases c19 : (((rd_T47 l1 x6_1).f0) == 2 && (((rd_T47 l1 x6_1).f1) == 0)) = true
     ·rw [if_pos c19] at H
      have c19b0 : (((rd_T47 l1 x6_1).f0) == 2 && (((rd_T47 l1 x6_1).f1) == 0)) = true := c19
      (try (have c19b1 : decide (((rd_T47 l1 x6_1).f0) = 2 && (((rd_T47 l1 x6_1).f1) == 0)) = true := by simpa using c19))
      (try (have c19b2 : (((rd_T47 l1 x6_1).f0) == 2 && (((rd_T47 l1 x6_1).f1) == 0)) = true := by simpa using c19))
      clear c19
      have H' := mk_ H
      clear H
      have p112 : 0 ≤ (x6_1 : Int) := oa_
      have q112 : x6_1 < (l1.length : Int) := oa_
      obtain ⟨ad112, e112, hx112_0, hx112_1⟩ := at_T47 HR1.out x6_1 p112 q112
      cases e112
      replace p112 := eq_true p112
      replace q112 := eq_true q112
      go_wp2
      go_meet
      case rel => exact ⟨_, (decide (x5_1 ≥ 1)), sm_, H', ⟨by have := HK1.out; have := HJ3.out; have := HJ8.out; first | omega | exact Nat.le_refl _⟩, by repeat (first | exact Drawn0.refl _ | apply Drawn0.step)⟩
     rw [if_neg c19] at H
     have c19b0 : (((rd_T47 l1 x6_1).f0) == 2 && (((rd_T47 l1 x6_1).f1) == 0)) = false := by simpa using c19
     (try (have c19b1 : decide (((rd_T47 l1 x6_1).f0) = 2 && (((rd_T47 l1 x6_1).f1) == 0)) = false := by simpa using c19))
     (try (have c19b2 : (((rd_T47 l1 x6_1).f0) == 2 && (((rd_T47 l1 x6_1).f1) == 0)) = false := by simpa using c19))
     (try (have c19b3 : ¬ (((rd_T47 l1 x6_1).f0) = 2 && (((rd_T47 l1 x6_1).f1) == 0)) := by simpa using c19))
     clear c19
     have H' := mk_ H
     clear H
     have p112 : 0 ≤ (x6_1 : Int) := oa_
     have q112 : x6_1 < (l1.length : Int) := oa_
     obtain ⟨ad112, e112, hx112_0, hx112_1⟩ := at_T47 HR1.out x6_1 p112 q112
     cases e112
     replace p112 := eq_true p112
     replace q112 := eq_true q112
     go_wp2
     go_meet
     case rel => exact ⟨_, (false), sm_, H', ⟨by have := HK1.out; have := HJ3.out; have := HJ8.out; first | omega | exact Nat.le_refl _⟩, by repeat (first | exact Drawn0.refl _ | apply Drawn0.step)⟩
    clear HC16
    try clear c1
    try clear p1
    try clear q1
    try clear hx1
    try clear c2
    try clear p2
    try clear c3
    try clear c3b0
    try clear c5
    try clear c5b0
    try clear c6
    try clear c6b0
    try clear c6b1
    try clear p6
    try clear c7
    try clear c7b0
    try clear c8
    try clear c10
    try clear c10b0
    try clear p10
    try clear q10
    try clear hx10
    try clear c11
    try clear c11b0
    try clear p11
    try clear q11
    try clear hx11
    try clear c12
    try clear c12b0
    try clear c12b1
    try clear c13
    try clear c13b0
    try clear c14
    try clear c14b0
    try clear c15
    try clear c17
    try clear c17b0
    try clear c18
    try clear c18b0
    try clear c19
    try clear c19b0
    try clear c19b1
    try clear c19b2
    try clear hx105_0
    try clear hx105_1
    try clear hx106_0
    try clear hx106_1
    try clear hx107_0
    try clear hx107_1
    try clear hx108_0
    try clear hx108_1
    try clear hx109_0
    try clear hx109_1
    try clear hx110_0
    try clear hx110_1
    try clear hx111_0
    try clear hx111_1
    try clear hx112_0
    try clear hx112_1
    try clear p1
    try clear p10
    try clear p105
    try clear p106
    try clear p107
    try clear p108
    try clear p109
    try clear p11
    try clear p110
    try clear p111
    try clear p112
    try clear p2
    try clear p6
    try clear q1
    try clear q10
    try clear q105
    try clear q106
    try clear q107
    try clear q108
    try clear q109
    try clear q11
    try clear q110
    try clear q111
    try clear q112
    obtain ⟨kq, x75_15, rfl, HA, HJ15, ⟨mc15, rfl⟩⟩ := hcut
    cases kq with
    | zero => exact absurd HA.out (by simp [spec_TermOk.j3])
    | succ kj15 =>
     have H := HA.out
     clear HA
     simp only [spec_TermOk.j3] at H
     by_cases c20 : x75_15 = true
     ·subst c20
      rw [if_pos rfl] at H
      have H' := mk_ H
      clear H
      go_wp2
      go_roundg kj15
      case measure => have := HK1.out; have := HJ3.out; have := HJ8.out; have := HJ15.out; omega
      case rel => exact ⟨(x5_1), (wrap64 (x6_1 + 1)), sm_, sm_, H', ⟨by have := HK1.out; have := HJ3.out; have := HJ8.out; have := HJ15.out; omega⟩, by repeat (first | exact Drawn0.refl _ | apply Drawn0.step)⟩
     replace c20 := Bool.eq_false_iff.mpr c20
     subst c20
     rw [if_neg Bool.false_ne_true] at H
     by_cases c21 : 0 ≤ x6_1
     rotate_left
     ·rw [if_neg c21] at H
      exact absurd H (by simp)
     rw [if_pos c21] at H
     have c21b0 : decide (0 ≤ x6_1) = true := decide_eq_true c21
     clear c21
     by_cases c22 : x6_1 < (l1.length : Int)
     rotate_left
     ·rw [if_neg c22] at H
      exact absurd H (by simp)
     rw [if_pos c22] at H
     have c22b0 : decide (x6_1 < (l1.length : Int)) = true := decide_eq_true c22
     clear c22
     replace H := Option.bind_eq_some_iff.mp H
     obtain ⟨t114, A230, H⟩ := H
     try dsimp only at H
     have A23 := mk_ A230
     clear A230
     by_cases c24 : t114 = true
     rotate_left
     ·replace c24 := Bool.eq_false_iff.mpr c24
      subst c24
      rw [if_neg Bool.false_ne_true] at H
      obtain rfl := Option.some.inj H
      have p113 : 0 ≤ (x6_1 : Int) := oa_
      have q113 : x6_1 < (l1.length : Int) := oa_
      obtain ⟨ad113, e113, hx113_0, hx113_1⟩ := at_T47 HR1.out x6_1 p113 q113
      cases e113
      replace p113 := eq_true p113
      replace q113 := eq_true q113
      go_wp2_with (first | ((with_reducible refine gate_callee (f := 47) rfl ?_); refine goesL_ (some 92) rfl rfl Try.func47 (by kernel_rfl) rfl #[.int .i64 ((rd_T47 l1 x6_1).f0), .int .i64 3, .int .i64 5] rfl gl_ ?_; (with_reducible refine (spec_l1In.calls ((rd_T47 l1 x6_1).f0) 3 5 false _ A23.out).mono ?_); rintro e w' ⟨rfl, ⟨nd, rfl⟩⟩; refine ⟨_, rfl, ?_⟩))
      go_ret
      exact ⟨sm_, by repeat (first | exact Drawn0.refl _ | apply Drawn0.step)⟩
     subst c24
     rw [if_pos rfl] at H
     by_cases c25 : ((rd_T47 l1 x6_1).f1) = 0
     rotate_left
     ·rw [if_neg c25] at H
      have c25b0 : (((rd_T47 l1 x6_1).f1) == 0) = false := beq_eq_false_iff_ne.mpr c25
      have c25b1 : (((rd_T47 l1 x6_1).f1) != 0) = true := bne_iff_ne.mpr c25
      obtain rfl := Option.some.inj H
      have p113 : 0 ≤ (x6_1 : Int) := oa_
      have q113 : x6_1 < (l1.length : Int) := oa_
      obtain ⟨ad113, e113, hx113_0, hx113_1⟩ := at_T47 HR1.out x6_1 p113 q113
      cases e113
      replace p113 := eq_true p113
      replace q113 := eq_true q113
      go_wp2_with (first | ((with_reducible refine gate_callee (f := 47) rfl ?_); refine goesL_ (some 92) rfl rfl Try.func47 (by kernel_rfl) rfl #[.int .i64 ((rd_T47 l1 x6_1).f0), .int .i64 3, .int .i64 5] rfl gl_ ?_; (with_reducible refine (spec_l1In.calls ((rd_T47 l1 x6_1).f0) 3 5 true _ A23.out).mono ?_); rintro e w' ⟨rfl, ⟨nd, rfl⟩⟩; refine ⟨_, rfl, ?_⟩; have p115 : 0 ≤ (x6_1 : Int) := oa_; have q115 : x6_1 < (l1.length : Int) := oa_; obtain ⟨ad115, e115, hx115_0, hx115_1⟩ := at_T47 HR1.out x6_1 p115 q115; obtain rfl : ad113 = ad115 := (by injection e115); replace p115 := eq_true p115; replace q115 := eq_true q115))
      go_ret
      exact ⟨sm_, by repeat (first | exact Drawn0.refl _ | apply Drawn0.step)⟩
     rw [if_pos c25] at H
     have c25b0 : (((rd_T47 l1 x6_1).f1) == 0) = true := beq_iff_eq.mpr c25
     have c25b1 : (((rd_T47 l1 x6_1).f1) != 0) = false := bne_eq_false_iff_eq.mpr c25
     clear c25
     by_cases c26 : x5_1 ≥ 2
     rotate_left
     ·rw [if_neg c26] at H
      have c26b0 : decide (2 ≤ x5_1) = false := decide_eq_false c26
      clear c26
      obtain rfl := Option.some.inj H
      have p113 : 0 ≤ (x6_1 : Int) := oa_
      have q113 : x6_1 < (l1.length : Int) := oa_
      obtain ⟨ad113, e113, hx113_0, hx113_1⟩ := at_T47 HR1.out x6_1 p113 q113
      cases e113
      replace p113 := eq_true p113
      replace q113 := eq_true q113
      go_wp2_with (first | ((with_reducible refine gate_callee (f := 47) rfl ?_); refine goesL_ (some 92) rfl rfl Try.func47 (by kernel_rfl) rfl #[.int .i64 ((rd_T47 l1 x6_1).f0), .int .i64 3, .int .i64 5] rfl gl_ ?_; (with_reducible refine (spec_l1In.calls ((rd_T47 l1 x6_1).f0) 3 5 true _ A23.out).mono ?_); rintro e w' ⟨rfl, ⟨nd, rfl⟩⟩; refine ⟨_, rfl, ?_⟩; have p115 : 0 ≤ (x6_1 : Int) := oa_; have q115 : x6_1 < (l1.length : Int) := oa_; obtain ⟨ad115, e115, hx115_0, hx115_1⟩ := at_T47 HR1.out x6_1 p115 q115; obtain rfl : ad113 = ad115 := (by injection e115); replace p115 := eq_true p115; replace q115 := eq_true q115))
      go_ret
      exact ⟨sm_, by repeat (first | exact Drawn0.refl _ | apply Drawn0.step)⟩
     rw [if_pos c26] at H
     have c26b0 : decide (2 ≤ x5_1) = true := decide_eq_true c26
     clear c26
     have H' := mk_ H
     clear H
     have p113 : 0 ≤ (x6_1 : Int) := oa_
     have q113 : x6_1 < (l1.length : Int) := oa_
     obtain ⟨ad113, e113, hx113_0, hx113_1⟩ := at_T47 HR1.out x6_1 p113 q113
     cases e113
     replace p113 := eq_true p113
     replace q113 := eq_true q113
     go_wp2_with (first | ((with_reducible refine gate_callee (f := 47) rfl ?_); refine goesL_ (some 92) rfl rfl Try.func47 (by kernel_rfl) rfl #[.int .i64 ((rd_T47 l1 x6_1).f0), .int .i64 3, .int .i64 5] rfl gl_ ?_; (with_reducible refine (spec_l1In.calls ((rd_T47 l1 x6_1).f0) 3 5 true _ A23.out).mono ?_); rintro e w' ⟨rfl, ⟨nd, rfl⟩⟩; refine ⟨_, rfl, ?_⟩; have p115 : 0 ≤ (x6_1 : Int) := oa_; have q115 : x6_1 < (l1.length : Int) := oa_; obtain ⟨ad115, e115, hx115_0, hx115_1⟩ := at_T47 HR1.out x6_1 p115 q115; obtain rfl : ad113 = ad115 := (by injection e115); replace p115 := eq_true p115; replace q115 := eq_true q115))
     go_roundg kj15
     case measure => have := HK1.out; have := HJ3.out; have := HJ8.out; have := HJ15.out; omega
     case rel => exact ⟨(wrap64 (x5_1 - 1)), (wrap64 (x6_1 + 1)), sm_, sm_, H', ⟨by have := HK1.out; have := HJ3.out; have := HJ8.out; have := HJ15.out; omega⟩, by repeat (first | exact Drawn0.refl _ | apply Drawn0.step)⟩
def spec_ClaimOk.f (k : Nat) (a0 : Int) (a1_0 : Int) (l1_1 : List (S47)) : Option (Bool) := if a1_0 ≥ 0 then (if a1_0 < a0 then ((spec_TermOk.f k a0 l1_1).bind fun t117 => (if t117 = true then (some (decide ((l1_1.length : Int) ≤ 13))) else (some false))) else (some false)) else (some false)
set_option maxHeartbeats 8000000 in
set_option maxRecDepth 100000 in
theorem spec_ClaimOk.calls (k : Nat) (a0 : Int) (a1_0 : Int) (A1_1 : Option Addr) (c1_1 : Nat) (l1_1 : List (S47)) (r : Bool) (w : World) (hr1_1 : Kd.C k47 w A1_1 l1_1.length l1_1) (hc1_1 : l1_1.length ≤ c1_1) (h : spec_ClaimOk.f k a0 a1_0 l1_1 = some r) :
  Calls Try.prog 64 #[.int .i64 a0, .agg #[.int .i64 a1_0, .slice A1_1 l1_1.length c1_1]] w fun e w' => e = .returned (.bool r) ∧ Below w.heap.size w w' := by
 have hu38 := Try.underlying38
 have HR1_1 := mk_ hr1_1
 have HC1_1 := mk_ hc1_1
 clear hr1_1 hc1_1
 have HB := mk_ (Below.refl w.heap.size w)
 unfold spec_ClaimOk.f at h
 have H := h
 clear h
 by_cases c3 : a1_0 ≥ 0
 rotate_left
 ·rw [if_neg c3] at H
  have c3b0 : decide (0 ≤ a1_0) = false := decide_eq_false c3
  clear c3
  obtain rfl := Option.some.inj H
  go_enter Try.func64, Try.ntmps64
  go_wp2_with (first | ((with_reducible refine gate_dst (N := 3) rfl ?_); (try (refine gate_guard (by rfl) ?_; dsimp only)); refine bx_ 3 #[.int .i64 a1_0, .slice A1_1 l1_1.length c1_1] 38 ?_; intro gb116 hg w13 hbox hb; have BK116 := mk_ (hbox); have GW116 := mk_ (gb_ hg HB.out); have GE116 := mk_ (gb_ hg HB.out); replace HB := mk_ (below_step (below_at HB.out) hb); clear hb hbox hg; have hcz14_0 := blk_cell BK116.out 0; have hcz14_1 := blk_cell BK116.out 1; have hfz14_0 := blk_frozen BK116.out 0; have hfz14_1 := blk_frozen BK116.out 1))
  go_ret
  exact ⟨er_, at_ HB.out⟩
 rw [if_pos c3] at H
 have c3b0 : decide (0 ≤ a1_0) = true := decide_eq_true c3
 clear c3
 by_cases c4 : a1_0 < a0
 rotate_left
 ·rw [if_neg c4] at H
  have c4b0 : decide (a1_0 < a0) = false := decide_eq_false c4
  clear c4
  obtain rfl := Option.some.inj H
  go_enter Try.func64, Try.ntmps64
  go_wp2_with (first | ((with_reducible refine gate_dst (N := 3) rfl ?_); (try (refine gate_guard (by rfl) ?_; dsimp only)); refine bx_ 3 #[.int .i64 a1_0, .slice A1_1 l1_1.length c1_1] 38 ?_; intro gb116 hg w11 hbox hb; have BK116 := mk_ (hbox); have GW116 := mk_ (gb_ hg HB.out); have GE116 := mk_ (gb_ hg HB.out); replace HB := mk_ (below_step (below_at HB.out) hb); clear hb hbox hg; have hcz12_0 := blk_cell BK116.out 0; have hcz12_1 := blk_cell BK116.out 1; have hfz12_0 := blk_frozen BK116.out 0; have hfz12_1 := blk_frozen BK116.out 1))
  go_ret
  exact ⟨er_, at_ HB.out⟩
 rw [if_pos c4] at H
 have c4b0 : decide (a1_0 < a0) = true := decide_eq_true c4
 clear c4
 replace H := Option.bind_eq_some_iff.mp H
 obtain ⟨t117, A50, H⟩ := H
 try dsimp only at H
 have A5 := mk_ A50
 clear A50
 by_cases c6 : t117 = true
 ·subst c6
  rw [if_pos rfl] at H
  obtain rfl := Option.some.inj H
  go_enter Try.func64, Try.ntmps64
  go_wp2_with (first | ((with_reducible refine gate_dst (N := 3) rfl ?_); (try (refine gate_guard (by rfl) ?_; dsimp only)); refine bx_ 3 #[.int .i64 a1_0, .slice A1_1 l1_1.length c1_1] 38 ?_; intro gb116 hg w7 hbox hb; have BK116 := mk_ (hbox); have GW116 := mk_ (gb_ hg HB.out); have GE116 := mk_ (gb_ hg HB.out); replace HB := mk_ (below_step (below_at HB.out) hb); clear hb hbox hg; have hcz8_0 := blk_cell BK116.out 0; have hcz8_1 := blk_cell BK116.out 1; have hfz8_0 := blk_frozen BK116.out 0; have hfz8_1 := blk_frozen BK116.out 1) | (go_at_call 28; (with_reducible refine (spec_TermOk.calls k a0 _ _ l1_1 true _ ?side1 ?side2 A5.out).mono ?_); (case side1 => exact Kd.C_below (Kd.C_below HR1_1.out HB.out) lt_); (case side2 => exact HC1_1.out); rintro e w' ⟨rfl, ⟨nd, rfl⟩⟩))
  go_ret
  exact ⟨er_, at_ HB.out⟩
 replace c6 := Bool.eq_false_iff.mpr c6
 subst c6
 rw [if_neg Bool.false_ne_true] at H
 obtain rfl := Option.some.inj H
 go_enter Try.func64, Try.ntmps64
 go_wp2_with (first | ((with_reducible refine gate_dst (N := 3) rfl ?_); (try (refine gate_guard (by rfl) ?_; dsimp only)); refine bx_ 3 #[.int .i64 a1_0, .slice A1_1 l1_1.length c1_1] 38 ?_; intro gb116 hg w9 hbox hb; have BK116 := mk_ (hbox); have GW116 := mk_ (gb_ hg HB.out); have GE116 := mk_ (gb_ hg HB.out); replace HB := mk_ (below_step (below_at HB.out) hb); clear hb hbox hg; have hcz10_0 := blk_cell BK116.out 0; have hcz10_1 := blk_cell BK116.out 1; have hfz10_0 := blk_frozen BK116.out 0; have hfz10_1 := blk_frozen BK116.out 1) | (go_at_call 28; (with_reducible refine (spec_TermOk.calls k a0 _ _ l1_1 false _ ?side1 ?side2 A5.out).mono ?_); (case side1 => exact Kd.C_below (Kd.C_below HR1_1.out HB.out) lt_); (case side2 => exact HC1_1.out); rintro e w' ⟨rfl, ⟨nd, rfl⟩⟩))
 go_ret
 exact ⟨er_, at_ HB.out⟩
end Go.Proofs.Ytcaogllnbpmcgaa.P

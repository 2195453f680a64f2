/- Go's functions come to just the answers of the Lean functions told here. -/
import Derived.Test.YtcaogllnbpmcgaaDoorPx0
namespace Go.Proofs.YtcaogllnbpmcgaaDoor.P
open Go.RowKit Go.Proofs.YtcaogllnbpmcgaaDoorW.PrintWords Go.Proofs.YtcaogllnbpmcgaaDoorW.PrintLast Go.Proofs.YtcaogllnbpmcgaaDoorW.PrintMore
attribute [local go_sem] max2_int min2_int max_two min_two max_three min_three max_four min_four
set_option linter.unusedVariables false
set_option linter.unusedSimpArgs false
-- NOT PRINTED: function 37 (impl_closedBy)
-- NOT PRINTED: function 36 (impl_ProofOk_1)
def slices_Index_bool_bool.l0 : Nat → List Bool → Bool → Int → Int → Option (Int)
 | 0, _, _, _, _ => none
 | k + 1, x0, x1, x7, x8 => if x8 < x7 then (if 0 ≤ x8 then (if x8 < (x0.length : Int) then (if (x1 == (rdOf false x0 x8)) = true then (some x8) else (slices_Index_bool_bool.l0 k x0 x1 x7 (wrap64 (x8 + 1)))) else (none)) else (none)) else (some (-1))
def slices_Index_bool_bool.f (k : Nat) (l0 : List Bool) (a1 : Bool) : Option (Int) := slices_Index_bool_bool.l0 k l0 a1 (l0.length : Int) 0
set_option maxHeartbeats 8000000 in
set_option maxRecDepth 100000 in
theorem slices_Index_bool_bool.calls (k : Nat) (A0 : Option Addr) (c0 : Nat) (l0 : List Bool) (a1 : Bool) (r : Int) (w : World) (hr0 : Kd.C Kd.bool w A0 l0.length l0) (hc0 : l0.length ≤ c0) (h : slices_Index_bool_bool.f k l0 a1 = some r) :
  Calls Tryd.prog 69 #[.slice A0 l0.length c0, .bool a1] w fun e w' => e = .returned (.int .i64 r) ∧ Drawn0 w w' := by
 have HR0 := mk_ hr0
 have HC0 := mk_ hc0
 clear hr0 hc0
 have H : (slices_Index_bool_bool.l0 k l0 a1 (l0.length : Int) 0) = some r := h
 clear h
 have H' := mk_ H
 clear H
 go_enter Tryd.func69, Tryd.ntmps69
 go_wp2
 go_loopg [8] k (fun kq v8 w' => ∃ (x8_1 : Int), v8 = .int .i64 x8_1 ∧ Aside0 (slices_Index_bool_bool.l0 kq l0 a1 (l0.length : Int) x8_1 = some r) ∧ Aside0 (kq ≤ k) ∧ Drawn0 w w')
 case atStart => exact ⟨(0), sm_, H', ⟨Nat.le_refl _⟩, by repeat (first | exact Drawn0.refl _ | apply Drawn0.step)⟩
 clear H'
 try clear p2
 obtain ⟨x8_1, rfl, HA, HK1, ⟨m1, rfl⟩⟩ := hrel
 cases gk with
 | zero => exact absurd HA.out (by simp [slices_Index_bool_bool.l0])
 | succ k1 =>
  have H := HA.out
  clear HA
  simp only [slices_Index_bool_bool.l0] at H
  revert H; refine ti_ (df_ fun c3b0 H => ?_) (dt_ fun c3b0 H => ?_)
  ·obtain rfl := Option.some.inj H
   go_wp2
   go_ret
   exact ⟨sm_, by repeat (first | exact Drawn0.refl _ | apply Drawn0.step)⟩
  revert H; refine g_ (dt_ fun c4b0 => g_ (dt_ fun c5b0 => it_ (fun c6 H => ?_) fun c6 H => ?_))
  ·have c6b0 : (a1 == (rdOf false l0 x8_1)) = true := c6
   (try (have c6b1 : decide (a1 = (rdOf false l0 x8_1)) = true := by simpa using c6))
   (try (have c6b2 : (a1 == (rdOf false l0 x8_1)) = true := by simpa using c6))
   clear c6
   obtain rfl := Option.some.inj H
   have p390 : 0 ≤ (x8_1 : Int) := oa_
   have q390 : x8_1 < (l0.length : Int) := oa_
   obtain ⟨ad390, e390, hx390_0⟩ := Kd.at_bool HR0.out x8_1 p390 q390
   cases e390
   replace p390 := eq_true p390
   replace q390 := eq_true q390
   go_wp2
   go_ret
   exact ⟨sm_, by repeat (first | exact Drawn0.refl _ | apply Drawn0.step)⟩
  have c6b0 : (a1 == (rdOf false l0 x8_1)) = false := by simpa using c6
  (try (have c6b1 : decide (a1 = (rdOf false l0 x8_1)) = false := by simpa using c6))
  (try (have c6b2 : (a1 == (rdOf false l0 x8_1)) = false := by simpa using c6))
  (try (have c6b3 : ¬ (a1 = (rdOf false l0 x8_1)) := by simpa using c6))
  clear c6
  have H' := mk_ H
  clear H
  have p390 : 0 ≤ (x8_1 : Int) := oa_
  have q390 : x8_1 < (l0.length : Int) := oa_
  obtain ⟨ad390, e390, hx390_0⟩ := Kd.at_bool HR0.out x8_1 p390 q390
  cases e390
  replace p390 := eq_true p390
  replace q390 := eq_true q390
  go_wp2
  go_roundg k1
  case measure => have := HK1.out; omega
  case rel => exact ⟨(wrap64 (x8_1 + 1)), sm_, H', ⟨by have := HK1.out; omega⟩, by repeat (first | exact Drawn0.refl _ | apply Drawn0.step)⟩
def slices_Contains_bool_bool.f (k : Nat) (l0 : List Bool) (a1 : Bool) : Option (Bool) := (slices_Index_bool_bool.f k l0 a1).bind fun t391 => (some (decide (t391 ≥ 0)))
set_option maxHeartbeats 8000000 in
set_option maxRecDepth 100000 in
theorem slices_Contains_bool_bool.calls (k : Nat) (A0 : Option Addr) (c0 : Nat) (l0 : List Bool) (a1 : Bool) (r : Bool) (w : World) (hr0 : Kd.C Kd.bool w A0 l0.length l0) (hc0 : l0.length ≤ c0) (h : slices_Contains_bool_bool.f k l0 a1 = some r) :
  Calls Tryd.prog 38 #[.slice A0 l0.length c0, .bool a1] w fun e w' => e = .returned (.bool r) ∧ Drawn0 w w' := by
 have HR0 := mk_ hr0
 have HC0 := mk_ hc0
 clear hr0 hc0
 have H : ((slices_Index_bool_bool.f k l0 a1).bind fun t391 => (some (decide (t391 ≥ 0)))) = some r := h
 clear h
 replace H := Option.bind_eq_some_iff.mp H
 obtain ⟨t391, A30, H⟩ := H
 replace H : (some (decide (t391 ≥ 0))) = some r := H
 have A3 := mk_ A30
 clear A30
 obtain rfl := Option.some.inj H
 go_enter Tryd.func38, Tryd.ntmps38
 go_wp2_with (first | (refine gc_ 69 (some 7) Tryd.func69 #[.slice A0 l0.length c0, .bool a1] ?_; (with_reducible refine (slices_Index_bool_bool.calls k _ _ l0 a1 t391 _ ?side1 ?side2 A3.out).mono ?_); (case side1 => exact Kd.C_below HR0.out lt_); (case side2 => exact HC0.out); rintro e w' ⟨rfl, ⟨nd, rfl⟩⟩; refine ⟨_, rfl, ?_⟩))
 go_ret
 exact ⟨sm_, by repeat (first | exact Drawn0.refl _ | apply Drawn0.step)⟩
end Go.Proofs.YtcaogllnbpmcgaaDoor.P

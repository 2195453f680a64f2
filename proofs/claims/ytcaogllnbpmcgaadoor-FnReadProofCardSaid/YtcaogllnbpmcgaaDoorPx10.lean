/- Go's functions come to just the answers of the Lean functions told here. -/
import Derived.Test.YtcaogllnbpmcgaaDoorPx0
set_option maxHeartbeats 8000000
set_option maxRecDepth 100000
namespace Go.Proofs.YtcaogllnbpmcgaaDoor.P
open Go.RowKit Go.Proofs.YtcaogllnbpmcgaaDoorW.PrintWords Go.Proofs.YtcaogllnbpmcgaaDoorW.PrintLast Go.Proofs.YtcaogllnbpmcgaaDoorW.PrintMore
attribute [local go_sem] max2_int min2_int max_two min_two max_three min_three max_four min_four
set_option linter.unusedVariables false
set_option linter.unusedSimpArgs false
-- NOT PRINTED: function 37 (impl_closedBy)
-- NOT PRINTED: function 36 (impl_ProofOk_1)
def slices_Index_bool_bool.l0 : Nat → List Bool → Bool → Int → Int → Option (Int)
 | 0, _, _, _, _ => none
 | k + 1, x0, x1, x7, x8 => if x8 < x7 then (if 0 ≤ x8 then (if x8 < (x0.length : Int) then (if (x1 == (rdOf false x0 x8)) = true then (some x8) else (slices_Index_bool_bool.l0 k x0 x1 x7 (wrap64 (x8 + 1)))) else (none)) else (none)) else (some (-1))
def slices_Index_bool_bool.f (k : Nat) (l0 : List Bool) (a1 : Bool) : Option (Int) := slices_Index_bool_bool.l0 k l0 a1 (l0.length : Int) 0
theorem slices_Index_bool_bool.calls (k : Nat) (u : Option Addr) (v : Nat) (l0 : List Bool) (b : Bool) (r : Int) (w : World) (i : Kd.C Kd.bool w u l0.length l0) (j : l0.length ≤ v) (h : slices_Index_bool_bool.f k l0 b = some r) :
  Calls Tryd.prog 69 #[.slice u l0.length v, .bool b] w fun e w' => e = .returned (.int .i64 r) ∧ Drawn0 w w' := by
 have l := mk_ i
 have D := mk_ j
 clear i j
 have H : (slices_Index_bool_bool.l0 k l0 b (l0.length : Int) 0) = some r := h
 clear h
 have H' := mk_ H
 clear H
 go_enter Tryd.func69, Tryd.ntmps69
 go_wp2
 go_loopg [8] k (fun kq x w' => ∃ (a : Int), x = .int .i64 a ∧ Aside0 (slices_Index_bool_bool.l0 kq l0 b (l0.length : Int) a = some r) ∧ Aside0 (kq ≤ k) ∧ Drawn0 w w')
 case atStart => exact ⟨(0), sm_, H', ⟨Nat.le_refl _⟩, by repeat (first | exact Drawn0.refl _ | apply Drawn0.step)⟩
 clear H'
 obtain ⟨a, rfl, HA, m, ⟨E, rfl⟩⟩ := hrel
 cases gk with
 | zero => exact absurd HA.out (by simp [slices_Index_bool_bool.l0])
 | succ y =>
  have H := HA.out
  clear HA
  simp only [slices_Index_bool_bool.l0] at H
  revert H; refine ti_ (df_ fun n H => ?_) (dt_ fun n H => ?_)
  ·obtain rfl := Option.some.inj H
   go_wp2
   go_ret
   exact ⟨sm_, by repeat (first | exact Drawn0.refl _ | apply Drawn0.step)⟩
  revert H; refine g_ (dt_ fun z => g_ (dt_ fun A => it_ (fun c6 H => ?_) fun c6 H => ?_))
  ·have o : (b == (rdOf false l0 a)) = true := c6
   (try (have p : decide (b = (rdOf false l0 a)) = true := by simpa using c6))
   (try (have q : (b == (rdOf false l0 a)) = true := by simpa using c6))
   clear c6
   obtain rfl := Option.some.inj H
   obtain ⟨g, c, d⟩ := Kd.at_bool l.out a oa_ oa_
   cases c
   obtain ⟨s, t⟩ := pq_ (a : Int) (l0.length : Int)
   go_wp2
   go_ret
   exact ⟨sm_, by repeat (first | exact Drawn0.refl _ | apply Drawn0.step)⟩
  have o : (b == (rdOf false l0 a)) = false := by simpa using c6
  (try (have p : decide (b = (rdOf false l0 a)) = false := by simpa using c6))
  (try (have q : (b == (rdOf false l0 a)) = false := by simpa using c6))
  (try (have B : ¬ (b = (rdOf false l0 a)) := by simpa using c6))
  clear c6
  have H' := mk_ H
  clear H
  obtain ⟨g, c, d⟩ := Kd.at_bool l.out a oa_ oa_
  cases c
  obtain ⟨s, t⟩ := pq_ (a : Int) (l0.length : Int)
  go_wp2
  go_roundg y
  case measure => have := m.out; omega
  case rel => exact ⟨(wrap64 (a + 1)), sm_, H', ⟨by have := m.out; omega⟩, by repeat (first | exact Drawn0.refl _ | apply Drawn0.step)⟩
def slices_Contains_bool_bool.f (k : Nat) (l0 : List Bool) (a1 : Bool) : Option (Bool) := (slices_Index_bool_bool.f k l0 a1).bind fun t140 => (some (decide (t140 ≥ 0)))
theorem slices_Contains_bool_bool.calls (k : Nat) (i : Option Addr) (j : Nat) (l0 : List Bool) (b : Bool) (r : Bool) (w : World) (c : Kd.C Kd.bool w i l0.length l0) (d : l0.length ≤ j) (h : slices_Contains_bool_bool.f k l0 b = some r) :
  Calls Tryd.prog 38 #[.slice i l0.length j, .bool b] w fun e w' => e = .returned (.bool r) ∧ Drawn0 w w' := by
 have l := mk_ c
 have m := mk_ d
 clear c d
 have H : ((slices_Index_bool_bool.f k l0 b).bind fun a => (some (decide (a ≥ 0)))) = some r := h
 clear h
 replace H := Option.bind_eq_some_iff.mp H
 obtain ⟨a, g, H⟩ := H
 replace H : (some (decide (a ≥ 0))) = some r := H
 have n := mk_ g
 clear g
 obtain rfl := Option.some.inj H
 go_enter Tryd.func38, Tryd.ntmps38
 go_wp2_with (first | (refine gc_ 69 (some 7) Tryd.func69 #[.slice i l0.length j, .bool b] ?_; (with_reducible refine (slices_Index_bool_bool.calls k _ _ l0 b a _ ?side1 ?side2 n.out).mono ?_); (case side1 => exact Kd.C_below l.out lt_); (case side2 => exact m.out); rintro e w' ⟨rfl, ⟨nd, rfl⟩⟩; refine ⟨_, rfl, ?_⟩))
 go_ret
 exact ⟨sm_, by repeat (first | exact Drawn0.refl _ | apply Drawn0.step)⟩
end Go.Proofs.YtcaogllnbpmcgaaDoor.P

/- Go's functions come to just the answers of the Lean functions told here. -/
import Derived.Test.YtcaogllnbpmcgaaDoorPx0
set_option maxHeartbeats 8000000
set_option maxRecDepth 100000
namespace Go.Proofs.YtcaogllnbpmcgaaDoor.P
open Go.RowKit Go.Proofs.YtcaogllnbpmcgaaDoorW.PrintWords Go.Proofs.YtcaogllnbpmcgaaDoorW.PrintLast Go.Proofs.YtcaogllnbpmcgaaDoorW.PrintMore
attribute [local go_sem] max2_int min2_int max_two min_two max_three min_three max_four min_four
set_option linter.unusedVariables false
set_option linter.unusedSimpArgs false
def strconv_small.f (a0 : Int) : Option (ByteArray) := if a0 < 10 then (if 0 ≤ a0 then (if a0 ≤ (wrap64 (a0 + 1)) then (if (wrap64 (a0 + 1)) ≤ 36 then (some ((⟨#[48, 49, 50, 51, 52, 53, 54, 55, 56, 57, 97, 98, 99, 100, 101, 102, 103, 104, 105, 106, 107, 108, 109, 110, 111, 112, 113, 114, 115, 116, 117, 118, 119, 120, 121, 122]⟩ : ByteArray).extract (a0 : Int).toNat ((wrap64 (a0 + 1)) : Int).toNat)) else (none)) else (none)) else (none)) else (if 0 ≤ (wrap64 (a0 * 2)) then (if (wrap64 (a0 * 2)) ≤ (wrap64 ((wrap64 (a0 * 2)) + 2)) then (if (wrap64 ((wrap64 (a0 * 2)) + 2)) ≤ 200 then (some ((⟨#[48, 48, 48, 49, 48, 50, 48, 51, 48, 52, 48, 53, 48, 54, 48, 55, 48, 56, 48, 57, 49, 48, 49, 49, 49, 50, 49, 51, 49, 52, 49, 53, 49, 54, 49, 55, 49, 56, 49, 57, 50, 48, 50, 49, 50, 50, 50, 51, 50, 52, 50, 53, 50, 54, 50, 55, 50, 56, 50, 57, 51, 48, 51, 49, 51, 50, 51, 51, 51, 52, 51, 53, 51, 54, 51, 55, 51, 56, 51, 57, 52, 48, 52, 49, 52, 50, 52, 51, 52, 52, 52, 53, 52, 54, 52, 55, 52, 56, 52, 57, 53, 48, 53, 49, 53, 50, 53, 51, 53, 52, 53, 53, 53, 54, 53, 55, 53, 56, 53, 57, 54, 48, 54, 49, 54, 50, 54, 51, 54, 52, 54, 53, 54, 54, 54, 55, 54, 56, 54, 57, 55, 48, 55, 49, 55, 50, 55, 51, 55, 52, 55, 53, 55, 54, 55, 55, 55, 56, 55, 57, 56, 48, 56, 49, 56, 50, 56, 51, 56, 52, 56, 53, 56, 54, 56, 55, 56, 56, 56, 57, 57, 48, 57, 49, 57, 50, 57, 51, 57, 52, 57, 53, 57, 54, 57, 55, 57, 56, 57, 57]⟩ : ByteArray).extract ((wrap64 (a0 * 2)) : Int).toNat ((wrap64 ((wrap64 (a0 * 2)) + 2)) : Int).toNat)) else (none)) else (none)) else (none))
theorem strconv_small.calls (b : Int) (r : ByteArray) (w : World) (h : strconv_small.f b = some r) :
  Calls Tryd.prog 96 #[.int .i64 b] w fun e w' => e = .returned (.string r) ∧ Drawn0 w w' := by
 unfold strconv_small.f at h
 have H := h
 clear h
 revert H; refine it_ (dt_ fun d H => ?_) (df_ fun d H => ?_)
 ·revert H; refine g_ (et_ fun i j => g_ (fun c4 H => ?_))
  have k := eq_true c4
  have l : decide (b ≤ (wrap64 (b + 1))) = true := decide_eq_true c4
  revert H; refine g_ (fun c5 H => ?_)
  have m := eq_true c5
  have n : decide ((wrap64 (b + 1)) ≤ 36) = true := decide_eq_true c5
  obtain rfl := Option.some.inj H
  go_enter Tryd.func96, Tryd.ntmps96
  go_wp2
  go_ret
  exact ⟨sm_, by repeat (first | exact Drawn0.refl _ | apply Drawn0.step)⟩
 obtain ⟨c, a⟩ : ∃ j_ : Int, (wrap64 (b * 2)) = j_ := ⟨_, rfl⟩
 first | rw [a] at H | simp only [a] at H
 have g : (IntKind.i64.wrap (b * 2)) = c := (i64_w _).trans a
 revert H; refine g_ (et_ fun o p => g_ (fun c8 H => ?_))
 have q := eq_true c8
 have s : decide ((c) ≤ (wrap64 ((c) + 2))) = true := decide_eq_true c8
 revert H; refine g_ (fun c9 H => ?_)
 have t := eq_true c9
 have u : decide ((wrap64 ((c) + 2)) ≤ 200) = true := decide_eq_true c9
 obtain rfl := Option.some.inj H
 go_enter Tryd.func96, Tryd.ntmps96
 go_wp2
 go_ret
 exact ⟨by first | rfl | (simp; done) | (simp only [← a] <;> (first | rfl | simp)) | (simp [*]; done), by repeat (first | exact Drawn0.refl _ | apply Drawn0.step)⟩
end Go.Proofs.YtcaogllnbpmcgaaDoor.P

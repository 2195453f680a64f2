/- Go's functions come to just the answers of the Lean functions told here. -/
import Derived.Test.YtcaogllnbpmcgaaDoorPx12
namespace Go.Proofs.YtcaogllnbpmcgaaDoor.P
open Go.RowKit Go.Proofs.YtcaogllnbpmcgaaDoorW.PrintWords Go.Proofs.YtcaogllnbpmcgaaDoorW.PrintLast Go.Proofs.YtcaogllnbpmcgaaDoorW.PrintMore
attribute [local go_sem] max2_int min2_int max_two min_two max_three min_three max_four min_four
set_option linter.unusedVariables false
set_option linter.unusedSimpArgs false
-- HAND rounds=0 making=0
/-- A number of one digit as text. -/
def strconv_Itoa_56.f (a0 : Int) : Option ByteArray := if 0 ≤ a0 ∧ a0 < 10 then some ⟨#[UInt8.ofNat (48 + a0.toNat)]⟩ else none
theorem strconv_Itoa_56.small (i : Nat) (h : i < 10) : strconv_small.f (i : Int) = some ⟨#[UInt8.ofNat (48 + i)]⟩ := by
 have F : ∀ i : Fin 10, strconv_small.f (i.val : Int) = some ⟨#[UInt8.ofNat (48 + i.val)]⟩ := by decide +kernel
 exact F ⟨i, h⟩
theorem strconv_Itoa_56.format (a0 : Int) (r : ByteArray) (w : World) (h0 : 0 ≤ a0) (h1 : a0 < 10) (h : strconv_small.f a0 = some r) :
  Calls Tryd.prog 90 #[.int .i64 a0, .int .i64 10] w fun e w' => e = .returned (.string r) ∧ Drawn0 w w' := by
 have d0 : decide (0 ≤ a0) = true := decide_eq_true h0
 have d1 : decide (a0 < 100) = true := decide_eq_true (by omega)
 have H := mk_ h
 clear h
 go_enter Tryd.func90, Tryd.ntmps90
 go_wp2_with (go_at_call 96; (refine (strconv_small.calls a0 r _ H.out).mono ?_); rintro e w' ⟨rfl, ⟨nd, rfl⟩⟩)
 go_ret
 exact ⟨rfl, ⟨_, rfl⟩⟩
theorem strconv_Itoa_56.inner (a0 : Int) (r : ByteArray) (w : World) (h0 : 0 ≤ a0) (h1 : a0 < 10) (h : strconv_small.f a0 = some r) :
  Calls Tryd.prog 78 #[.int .i64 a0] w fun e w' => e = .returned (.string r) ∧ Drawn0 w w' := by
 have T := mk_ (strconv_Itoa_56.format a0 r w h0 h1 h)
 clear h
 go_enter Tryd.func78, Tryd.ntmps78
 go_wp2_with (go_at_call 90; (refine T.out.mono ?_); rintro e w' ⟨rfl, ⟨nd, rfl⟩⟩)
 go_ret
 exact ⟨rfl, ⟨_, rfl⟩⟩
theorem strconv_Itoa_56.calls (a : Int) (r : ByteArray) (w : World) (h : strconv_Itoa_56.f a = some r) :
  Calls Tryd.prog 56 #[.int .i64 a] w fun e w' => e = .returned (.string r) ∧ Drawn0 w w' := by
 unfold strconv_Itoa_56.f at h
 by_cases hb : 0 ≤ a ∧ a < 10
 case neg => rw [if_neg hb] at h; cases h
 rw [if_pos hb] at h
 obtain ⟨i, rfl⟩ : ∃ i : Nat, a = (i : Int) := ⟨a.toNat, by omega⟩
 rw [Int.toNat_natCast] at h
 have hr := Option.some.inj h
 have hs : strconv_small.f (i : Int) = some r := by rw [strconv_Itoa_56.small i (by omega)]; exact congrArg some hr
 have T := mk_ (strconv_Itoa_56.inner (i : Int) r w hb.1 hb.2 hs)
 clear h hb hr hs
 go_enter Tryd.func56, Tryd.ntmps56
 go_wp2_with (go_at_call 78; (refine T.out.mono ?_); rintro e w' ⟨rfl, ⟨nd, rfl⟩⟩)
 go_ret
 exact ⟨rfl, ⟨_, rfl⟩⟩
end Go.Proofs.YtcaogllnbpmcgaaDoor.P

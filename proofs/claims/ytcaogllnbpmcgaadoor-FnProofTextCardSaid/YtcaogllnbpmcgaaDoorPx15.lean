/- Go's functions come to just the answers of the Lean functions told here. -/
import Derived.Test.YtcaogllnbpmcgaaDoorPx12
namespace Go.Proofs.YtcaogllnbpmcgaaDoor.P
open Go.RowKit Go.Proofs.YtcaogllnbpmcgaaDoorW.PrintWords Go.Proofs.YtcaogllnbpmcgaaDoorW.PrintLast Go.Proofs.YtcaogllnbpmcgaaDoorW.PrintMore
attribute [local go_sem] max2_int min2_int max_two min_two max_three min_three max_four min_four
set_option linter.unusedVariables false
set_option linter.unusedSimpArgs false
def impl_maySay.f (k : Nat) (a0_0 : Int) (l0_1 : List (S82)) (a1 : Int) : Option (Bool) := (impl_holds.f k l0_1 a1).bind fun t389 => (if 0 ≤ a0_0 then (some (t389 == ((Go.bits .and .i64 (shr .i64 a1 a0_0) 1) == 1))) else (none))
def impl_maySay.T1 : Bool × List (List Nat × List Nat) := (true, [([], []), ([0], [0]), ([], []), ([1, 2], [1, 2]), ([], []), ([], []), ([5], [5]), ([4, 6], [4, 6]), ([7], [7]), ([8], [8]), ([3, 9], [3, 9]), ([10, 3, 0, 1, 2, 3, 4, 5, 6, 7, 8, 9, 10], [10])])
def impl_maySay.B1 : List Nat := [0, 1, 0, 7, 0, 0, 32, 112, 240, 496, 1023, 2047]
theorem impl_maySay.tab1 : rtab .any (opsOf Tryd.f85 1) = impl_maySay.T1 := by kernel_rfl
theorem impl_maySay.bits1 : waitsOk impl_maySay.T1.2 impl_maySay.B1 = true := by kernel_rfl
set_option maxHeartbeats 8000000 in
set_option maxRecDepth 100000 in
theorem impl_maySay.calls (k : Nat) (a0_0 : Int) (A0_1 : Option Addr) (c0_1 : Nat) (l0_1 : List (S82)) (a1 : Int) (r : Bool) (w : World) (hr0_1 : Kd.C k82 w A0_1 l0_1.length l0_1) (hc0_1 : l0_1.length ≤ c0_1) (h : impl_maySay.f k a0_0 l0_1 a1 = some r) :
  Calls Tryd.prog 85 #[.agg #[.int .i64 a0_0, .slice A0_1 l0_1.length c0_1], .int .i64 a1] w fun e w' => e = .returned (.bool r) ∧ Below w.heap.size w w' := by
 have hu79 := Tryd.underlying79
 have HR0_1 := mk_ hr0_1
 have HC0_1 := mk_ hc0_1
 clear hr0_1 hc0_1
 have HB := mk_ (Below.refl w.heap.size w)
 unfold impl_maySay.f at h
 have H := h
 clear h
 revert H; refine bd_ fun t389 A3 H => ?_
 try dsimp only at H
 revert H; refine g_ (et_ fun c4b0 c4b1 H => ?_)
 obtain ⟨ji5, hji5⟩ : ∃ j_ : Int, (shr .i64 a1 a0_0) = j_ := ⟨_, rfl⟩
 first | rw [hji5] at H | simp only [hji5] at H
 (try rw [hji5] at A3)
 have hji5_ : (a1 / 2 ^ min a0_0.toNat 64) = ji5 := hji5
 have hji5z : a0_0 ≤ 64 → (a1 / 2 ^ a0_0.toNat) = ji5 := shr_small hji5
 obtain rfl := Option.some.inj H
 go_enter Tryd.func85, Tryd.ntmps85
 try go_wp2_with (first | (refine gx_ 2 #[.int .i64 a0_0, .slice A0_1 l0_1.length c0_1] 79 ?_; intro gb388 hg w6 hbox hb; have BK388 := mk_ (hbox); have GW388 := gm_ hg HB.out; have GE388 := gm_ hg HB.out; replace HB := mk_ (below_step (below_at HB.out) hb); clear hb hbox hg))
 replace BK388 := mk_ (blk_drew BK388.out)
 replace HB := mk_ (below_drew1 HB.out)
 refine start_ (n := 12) (S := fun w' => w'.cell? ⟨gb388, 0, none⟩ = some (.int .i64 a0_0) ∧ w'.cell? ⟨gb388, 1, none⟩ = some (.slice A0_1 l0_1.length c0_1)) (ds := []) #[false, false, false, false, false, false, false, false, false, false, false, false] (by kernel_rfl) rfl rfl ⟨(blk_cell BK388.out 0).trans rfl, (blk_cell BK388.out 1).trans rfl⟩ (fun hHeld => ?_); refine with_tabW impl_maySay.tab1 impl_maySay.bits1 (fun HT_ HW_ => ?_)
 generalize w6.drew = w7 at BK388 HB hHeld ⊢
 refine pus_ 0 (some 5) (ao_ HT_) ?_
 refine pus_ 2 (some 7) (ao_ HT_) ?_
 refine pus_ 4 (some 9) (ao_ HT_) ?_
 refine pus_ 5 (some 10) (ao_ HT_) ?_
 refine tas_ 1 (some 6) (to_ HT_ HW_) hHeld ?_
 refine tas_ 6 (some 11) (to_ HT_ HW_) hHeld ?_
 refine pus_ 7 (some 12) (ao_ HT_) ?_
 refine pus_ 8 (some 13) (ao_ HT_) ?_
 refine pus_ 9 (some 14) (ao_ HT_) ?_
 refine ons_ 3 (some 8) (oo_ HT_) (fun K hK => ?_)
 refine goes_ Tryd.func83 (by kernel_rfl) rfl #[.slice A0_1 l0_1.length c0_1, .int .i64 a1] (by rfl) rfl rfl gl_ ?_
 with_reducible refine (impl_holds.calls k _ _ l0_1 a1 t389 _ ?side1 ?side2 A3.out).mono ?_
 (case side1 => exact Kd.C_below (Kd.C_below HR0_1.out HB.out) lt_)
 (case side2 => exact HC0_1.out)
 rintro e w8 ⟨rfl, hb⟩
 refine ⟨_, rfl, ?_⟩
 replace BK388 := mk_ (blk_at BK388.out hb)
 replace HB := mk_ (below_step (at_ HB.out) hb)
 (try clear hb)
 (try clear hb2)
 (try clear hk)
 (try clear hi)
 refine hK.out _ _ ⟨(blk_cell BK388.out 0).trans rfl, (blk_cell BK388.out 1).trans rfl⟩ (fun hHeld => ?_)
 clear hK K
 refine nor_ (some 8) ?_
 refine pus_ 10 (some 15) (ao_ HT_) ?_
 refine pus_ 11 (some 4) (ao_ HT_) ?_
 refine done_ (done_of HT_.out (by kernel_rfl)) ?_
 try go_wp2
 go_ret
 exact ⟨by first | rfl | (simp [errW_none, errW_some] <;> rfl) | (simp only [← hji5]; first | rfl | (simp [errW_none, errW_some] <;> rfl)) | (simp [*, errW_none, errW_some] <;> rfl), at_ HB.out⟩
-- NOT PRINTED: function 84 (impl_ClaimTable_1)
end Go.Proofs.YtcaogllnbpmcgaaDoor.P

/- Go's functions come to just the answers of the Lean functions told here. -/
import Derived.Test.YtcaogllnbpmcgaaDoorPx5
set_option maxHeartbeats 8000000
set_option maxRecDepth 100000
namespace Go.Proofs.YtcaogllnbpmcgaaDoor.P
open Go.RowKit Go.Proofs.YtcaogllnbpmcgaaDoorW.PrintWords Go.Proofs.YtcaogllnbpmcgaaDoorW.PrintLast Go.Proofs.YtcaogllnbpmcgaaDoorW.PrintMore
attribute [local go_sem] max2_int min2_int max_two min_two max_three min_three max_four min_four
set_option linter.unusedVariables false
set_option linter.unusedSimpArgs false
def impl_maySay.f (k : Nat) (a0_0 : Int) (l0_1 : List (S82)) (a1 : Int) : Option (Bool) := (impl_holds.f k l0_1 a1).bind fun t138 => (if 0 ≤ a0_0 then (some (t138 == ((Go.bits .and .i64 (shr .i64 a1 a0_0) 1) == 1))) else (none))
def impl_maySay.T1 : Bool × List (List Nat × List Nat) := (true, [([], []), ([0], [0]), ([], []), ([1, 2], [1, 2]), ([], []), ([], []), ([5], [5]), ([4, 6], [4, 6]), ([7], [7]), ([8], [8]), ([3, 9], [3, 9]), ([10, 3, 0, 1, 2, 3, 4, 5, 6, 7, 8, 9, 10], [10])])
def impl_maySay.B1 : List Nat := [0, 1, 0, 7, 0, 0, 32, 112, 240, 496, 1023, 2047]
theorem impl_maySay.tab1 : rtab .any (opsOf Tryd.f85 1) = impl_maySay.T1 := by kernel_rfl
theorem impl_maySay.bits1 : waitsOk impl_maySay.T1.2 impl_maySay.B1 = true := by kernel_rfl
theorem impl_maySay.calls (k : Nat) (d : Int) (j : Option Addr) (l : Nat) (c : List (S82)) (m : Int) (r : Bool) (w : World) (o : Kd.C k82 w j c.length c) (p : c.length ≤ l) (h : impl_maySay.f k d c m = some r) :
  Calls Tryd.prog 85 #[.agg #[.int .i64 d, .slice j c.length l], .int .i64 m] w fun e w' => e = .returned (.bool r) ∧ Below w.heap.size w w' := by
 have G := Tryd.underlying79
 have t := mk_ o
 have u := mk_ p
 clear o p
 have HB := mk_ (Below.refl w.heap.size w)
 unfold impl_maySay.f at h
 have H := h
 clear h
 revert H; refine bd_ fun z A H => ?_
 try dsimp only at H
 revert H; refine g_ (et_ fun I J H => ?_)
 obtain ⟨x, g⟩ : ∃ j_ : Int, (shr .i64 m d) = j_ := ⟨_, rfl⟩
 first | rw [g] at H | simp only [g] at H
 (try rw [g] at A)
 have B : (m / 2 ^ min d.toNat 64) = x := g
 have D : d ≤ 64 → (m / 2 ^ d.toNat) = x := shr_small g
 obtain rfl := Option.some.inj H
 go_enter Tryd.func85, Tryd.ntmps85
 try go_wp2_with (first | (refine gx_ 2 #[.int .i64 d, .slice j c.length l] 79 ?_; intro q hg L s hb; have a := mk_ (s); have v := gm_ hg HB.out; have E := v; replace HB := hs_ HB hb; clear hb s hg))
 replace a := mk_ (blk_drew a.out)
 replace HB := mk_ (below_drew1 HB.out)
 refine start_ (n := 12) (S := fun w' => w'.cell? ⟨q, 0, none⟩ = some (.int .i64 d) ∧ w'.cell? ⟨q, 1, none⟩ = some (.slice j c.length l)) (ds := []) #[false, false, false, false, false, false, false, false, false, false, false, false] (by kernel_rfl) rfl rfl ⟨(blk_cell a.out 0).trans rfl, (blk_cell a.out 1).trans rfl⟩ (fun i => ?_); refine with_tabW impl_maySay.tab1 impl_maySay.bits1 (fun b y => ?_)
 generalize L.drew = M at a HB i ⊢
 refine pus_ 0 (some 5) (ao_ b) ?_
 refine pus_ 2 (some 7) (ao_ b) ?_
 refine pus_ 4 (some 9) (ao_ b) ?_
 refine pus_ 5 (some 10) (ao_ b) ?_
 refine tas_ 1 (some 6) (to_ b y) i ?_
 refine tas_ 6 (some 11) (to_ b y) i ?_
 refine pus_ 7 (some 12) (ao_ b) ?_
 refine pus_ 8 (some 13) (ao_ b) ?_
 refine pus_ 9 (some 14) (ao_ b) ?_
 refine ons_ 3 (some 8) (oo_ b) (fun K hK => ?_)
 refine goes_ Tryd.func83 (by kernel_rfl) rfl #[.slice j c.length l, .int .i64 m] (by rfl) rfl rfl gl_ ?_
 with_reducible refine (impl_holds.calls k _ _ c m z _ ?side1 ?side2 A.out).mono ?_
 (case side1 => exact Kd.C_below (Kd.C_below t.out HB.out) lt_)
 (case side2 => exact u.out)
 rintro e O ⟨rfl, hb⟩
 refine ⟨_, rfl, ?_⟩
 replace a := mk_ (blk_at a.out hb)
 replace HB := ht_ HB hb
 (try clear hb)
 (try clear hb2)
 (try clear hk)
 (try clear hi)
 refine hK.out _ _ ⟨(blk_cell a.out 0).trans rfl, (blk_cell a.out 1).trans rfl⟩ (fun i => ?_)
 clear hK K
 refine nor_ (some 8) ?_
 refine pus_ 10 (some 15) (ao_ b) ?_
 refine pus_ 11 (some 4) (ao_ b) ?_
 refine done_ (done_of b.out (by kernel_rfl)) ?_
 try go_wp2
 go_ret
 exact ⟨by first | rfl | (simp [errW_none, errW_some] <;> rfl) | (simp only [← g]; first | rfl | (simp [errW_none, errW_some] <;> rfl)) | (simp [*, errW_none, errW_some] <;> rfl), at_ HB.out⟩
-- NOT PRINTED: function 84 (impl_ClaimTable_1)
end Go.Proofs.YtcaogllnbpmcgaaDoor.P

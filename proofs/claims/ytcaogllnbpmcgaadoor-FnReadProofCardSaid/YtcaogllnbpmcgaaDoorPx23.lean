/- Go's functions come to just the answers of the Lean functions told here. -/
import Derived.Test.YtcaogllnbpmcgaaDoorPx22
set_option maxHeartbeats 8000000
set_option maxRecDepth 100000
namespace Go.Proofs.YtcaogllnbpmcgaaDoor.P
open Go.RowKit Go.Proofs.YtcaogllnbpmcgaaDoorW.PrintWords Go.Proofs.YtcaogllnbpmcgaaDoorW.PrintLast Go.Proofs.YtcaogllnbpmcgaaDoorW.PrintMore
attribute [local go_sem] max2_int min2_int max_two min_two max_three min_three max_four min_four
set_option linter.unusedVariables false
set_option linter.unusedSimpArgs false
def spec_l11Text.f : Nat → Int → List (S68) → Int → Option (ByteArray)
 | 0, _, _, _ => none
 | k + 1, a0_0, l0_1, a1 => if a1 = (-1) then (some (⟨#[42]⟩ : ByteArray)) else (if a1 < 0 then ((spec_l1Number.f k (wrap64 ((-2) - a1))).bind fun t276 => (some t276)) else (if 0 ≤ a1 then (if a1 < (l0_1.length : Int) then (if 0 ≤ ((rd_T68 l0_1 a1).f0) then (if ((rd_T68 l0_1 a1).f0) ≤ (wrap64 (((rd_T68 l0_1 a1).f0) + 1)) then (if (wrap64 (((rd_T68 l0_1 a1).f0) + 1)) ≤ 4 then (if ((⟨#[97, 98, 99, 100]⟩ : ByteArray).extract (((rd_T68 l0_1 a1).f0) : Int).toNat ((wrap64 (((rd_T68 l0_1 a1).f0) + 1)) : Int).toNat).size + 1 ≤ 9223372036854775807 then ((spec_l11Text.f k a0_0 l0_1 ((rd_T68 l0_1 a1).f1)).bind fun t279 => (if (((⟨#[97, 98, 99, 100]⟩ : ByteArray).extract (((rd_T68 l0_1 a1).f0) : Int).toNat ((wrap64 (((rd_T68 l0_1 a1).f0) + 1)) : Int).toNat) ++ (⟨#[40]⟩ : ByteArray)).size + t279.size ≤ 9223372036854775807 then (if ((((⟨#[97, 98, 99, 100]⟩ : ByteArray).extract (((rd_T68 l0_1 a1).f0) : Int).toNat ((wrap64 (((rd_T68 l0_1 a1).f0) + 1)) : Int).toNat) ++ (⟨#[40]⟩ : ByteArray)) ++ t279).size + 1 ≤ 9223372036854775807 then ((spec_l11Text.f k a0_0 l0_1 ((rd_T68 l0_1 a1).f2)).bind fun t280 => (if (((((⟨#[97, 98, 99, 100]⟩ : ByteArray).extract (((rd_T68 l0_1 a1).f0) : Int).toNat ((wrap64 (((rd_T68 l0_1 a1).f0) + 1)) : Int).toNat) ++ (⟨#[40]⟩ : ByteArray)) ++ t279) ++ (⟨#[44]⟩ : ByteArray)).size + t280.size ≤ 9223372036854775807 then (if ((((((⟨#[97, 98, 99, 100]⟩ : ByteArray).extract (((rd_T68 l0_1 a1).f0) : Int).toNat ((wrap64 (((rd_T68 l0_1 a1).f0) + 1)) : Int).toNat) ++ (⟨#[40]⟩ : ByteArray)) ++ t279) ++ (⟨#[44]⟩ : ByteArray)) ++ t280).size + 1 ≤ 9223372036854775807 then (some (((((((⟨#[97, 98, 99, 100]⟩ : ByteArray).extract (((rd_T68 l0_1 a1).f0) : Int).toNat ((wrap64 (((rd_T68 l0_1 a1).f0) + 1)) : Int).toNat) ++ (⟨#[40]⟩ : ByteArray)) ++ t279) ++ (⟨#[44]⟩ : ByteArray)) ++ t280) ++ (⟨#[41]⟩ : ByteArray))) else (none)) else (none))) else (none)) else (none))) else (none)) else (none)) else (none)) else (none)) else (none)) else (none)))
def spec_l11Text.T6 : Bool × List (List Nat × List Nat) := (true, [([], []), ([0], [0]), ([], []), ([2], [2]), ([3], [3]), ([1, 4], [1, 4]), ([5], [5]), ([], []), ([], []), ([8], [8]), ([7, 9], [7, 9]), ([6, 10], [6, 10]), ([11], [11]), ([], []), ([], []), ([14], [14]), ([13, 15, 10], [13, 15]), ([12, 16], [12, 16]), ([17], [17]), ([18, 16, 0, 1, 2, 3, 4, 5, 6, 7, 8, 9, 10, 11, 12, 13, 14, 15, 16, 17, 18], [18])])
def spec_l11Text.B6 : List Nat := [0, 1, 0, 4, 12, 31, 63, 0, 0, 256, 896, 2047, 4095, 0, 0, 16384, 59264, 131071, 262143, 524287]
theorem spec_l11Text.tab6 : rtab .any (opsOf Tryd.f33 6) = spec_l11Text.T6 := by kernel_rfl
theorem spec_l11Text.bits6 : waitsOk spec_l11Text.T6.2 spec_l11Text.B6 = true := by kernel_rfl
theorem spec_l11Text.calls (k : Nat) : ∀ (l : Int) (v : Option Addr) (p : Nat) (a : List (S68)) (b : Int) (r : ByteArray) (w : World) (D : Kd.C k68 w v a.length a) (E : a.length ≤ p) (h : spec_l11Text.f k l a b = some r),
  Calls Tryd.prog 33 #[.agg #[.int .i64 l, .slice v a.length p], .int .i64 b] w fun e w' => e = .returned (.string r) ∧ Below w.heap.size w w' := by
 induction k using Nat.strongRecOn with
 | _ k ih =>
 intro l v p a b r w D E h
 cases k with
 | zero => exact absurd h (by simp [spec_l11Text.f])
 | succ k =>
 simp only [spec_l11Text.f] at h
 have a3 := Tryd.underlying27
 have a4 := Tryd.underlying68
 have G := mk_ D
 have L := mk_ E
 clear D E
 have HB := mk_ (Below.refl w.heap.size w)
 have H : (if b = (-1) then (some (⟨#[42]⟩ : ByteArray)) else (if b < 0 then ((spec_l1Number.f k (wrap64 ((-2) - b))).bind fun I => (some I)) else (if 0 ≤ b then (if b < (a.length : Int) then (if 0 ≤ ((rd_T68 a b).f0) then (if ((rd_T68 a b).f0) ≤ (wrap64 (((rd_T68 a b).f0) + 1)) then (if (wrap64 (((rd_T68 a b).f0) + 1)) ≤ 4 then (if ((⟨#[97, 98, 99, 100]⟩ : ByteArray).extract (((rd_T68 a b).f0) : Int).toNat ((wrap64 (((rd_T68 a b).f0) + 1)) : Int).toNat).size + 1 ≤ 9223372036854775807 then ((spec_l11Text.f k l a ((rd_T68 a b).f1)).bind fun j => (if (((⟨#[97, 98, 99, 100]⟩ : ByteArray).extract (((rd_T68 a b).f0) : Int).toNat ((wrap64 (((rd_T68 a b).f0) + 1)) : Int).toNat) ++ (⟨#[40]⟩ : ByteArray)).size + j.size ≤ 9223372036854775807 then (if ((((⟨#[97, 98, 99, 100]⟩ : ByteArray).extract (((rd_T68 a b).f0) : Int).toNat ((wrap64 (((rd_T68 a b).f0) + 1)) : Int).toNat) ++ (⟨#[40]⟩ : ByteArray)) ++ j).size + 1 ≤ 9223372036854775807 then ((spec_l11Text.f k l a ((rd_T68 a b).f2)).bind fun q => (if (((((⟨#[97, 98, 99, 100]⟩ : ByteArray).extract (((rd_T68 a b).f0) : Int).toNat ((wrap64 (((rd_T68 a b).f0) + 1)) : Int).toNat) ++ (⟨#[40]⟩ : ByteArray)) ++ j) ++ (⟨#[44]⟩ : ByteArray)).size + q.size ≤ 9223372036854775807 then (if ((((((⟨#[97, 98, 99, 100]⟩ : ByteArray).extract (((rd_T68 a b).f0) : Int).toNat ((wrap64 (((rd_T68 a b).f0) + 1)) : Int).toNat) ++ (⟨#[40]⟩ : ByteArray)) ++ j) ++ (⟨#[44]⟩ : ByteArray)) ++ q).size + 1 ≤ 9223372036854775807 then (some (((((((⟨#[97, 98, 99, 100]⟩ : ByteArray).extract (((rd_T68 a b).f0) : Int).toNat ((wrap64 (((rd_T68 a b).f0) + 1)) : Int).toNat) ++ (⟨#[40]⟩ : ByteArray)) ++ j) ++ (⟨#[44]⟩ : ByteArray)) ++ q) ++ (⟨#[41]⟩ : ByteArray))) else (none)) else (none))) else (none)) else (none))) else (none)) else (none)) else (none)) else (none)) else (none)) else (none)))) = some r := h
 clear h
 revert H; refine it_ (qt_ fun ap aq H => ?_) (qfk_ fun c3 ap aq H => ?_)
 ·obtain rfl := Option.some.inj H
  go_enter Tryd.func33, Tryd.ntmps33
  go_wp2_with (first | ((with_reducible refine gate_dst (N := 2) rfl ?_); refine gx_ 2 #[.int .i64 l, .slice v a.length p] 27 ?_; intro t hg w4 s hb; have u := gm_ hg HB.out; have M := u; replace HB := hs_ HB hb; clear hb s hg))
  go_ret
  exact ⟨er_, at_ HB.out⟩
 revert H; refine it_ (dt_ fun ar H => ?_) (df_ fun ar H => ?_)
 ·replace H := Option.bind_eq_some_iff.mp H
  obtain ⟨I, am, H⟩ := H
  replace H : (some I) = some r := H
  have A6 := mk_ am
  clear am
  obtain rfl := Option.some.inj H
  go_enter Tryd.func33, Tryd.ntmps33
  go_wp2_with (first | ((with_reducible refine gate_dst (N := 2) rfl ?_); refine gx_ 2 #[.int .i64 l, .slice v a.length p] 27 ?_; intro t hg w7 s hb; have u := gm_ hg HB.out; have M := u; replace HB := hs_ HB hb; clear hb s hg) | ((with_reducible refine gate_callee (f := 62) rfl ?_); refine gc_ 62 (some 12) Tryd.func62 #[.int .i64 (wrap64 ((-2) - b))] ?_; (with_reducible refine mo_ (spec_l1Number.calls k (wrap64 ((-2) - b)) I _ A6.out) ?_); intro w8 hb; replace HB := ht_ HB hb; (try clear c); (try clear hb)))
  go_ret
  exact ⟨er_, at_ HB.out⟩
 revert H; refine g_ (dt_ fun a6 => g_ (dt_ fun aI => g_ (et_ fun aJ aK => g_ (fun an H => ?_))))
 have aL := eq_true an
 have aM : decide (((rd_T68 a b).f0) ≤ (wrap64 (((rd_T68 a b).f0) + 1))) = true := decide_eq_true an
 revert H; refine g_ (fun ao H => ?_)
 have aN := eq_true ao
 have aO : decide ((wrap64 (((rd_T68 a b).f0) + 1)) ≤ 4) = true := decide_eq_true ao
 revert H; refine g_ (fun P H => ?_)
 have aP := eq_true P
 have aQ : decide (((⟨#[97, 98, 99, 100]⟩ : ByteArray).extract (((rd_T68 a b).f0) : Int).toNat ((wrap64 (((rd_T68 a b).f0) + 1)) : Int).toNat).size + 1 ≤ 9223372036854775807) = true := decide_eq_true P
 try have ab : (9223372036854775807 < ((⟨#[97, 98, 99, 100]⟩ : ByteArray).extract (((rd_T68 a b).f0) : Int).toNat ((wrap64 (((rd_T68 a b).f0) + 1)) : Int).toNat).size + 1) = False := eq_false (Nat.not_lt.2 P)
 try (have ac := ab; simp only [ByteArray.size_append', show (⟨#[97, 98, 99, 100]⟩ : ByteArray).size = 4 from rfl, ByteArray.size_extract, Nat.min_eq_left (show ((wrap64 (((rd_T68 a b).f0) + 1)) : Int).toNat ≤ 4 by omega)] at ac)
 revert H; refine bd_ fun j aF H => ?_
 try dsimp only at H
 revert H; refine g_ (fun T H => ?_)
 have aR := eq_true T
 have aS : decide ((((⟨#[97, 98, 99, 100]⟩ : ByteArray).extract (((rd_T68 a b).f0) : Int).toNat ((wrap64 (((rd_T68 a b).f0) + 1)) : Int).toNat) ++ (⟨#[40]⟩ : ByteArray)).size + j.size ≤ 9223372036854775807) = true := decide_eq_true T
 try have ad : (9223372036854775807 < (((⟨#[97, 98, 99, 100]⟩ : ByteArray).extract (((rd_T68 a b).f0) : Int).toNat ((wrap64 (((rd_T68 a b).f0) + 1)) : Int).toNat) ++ (⟨#[40]⟩ : ByteArray)).size + j.size) = False := eq_false (Nat.not_lt.2 T)
 try (have ae := ad; simp only [ByteArray.size_append', show (⟨#[40]⟩ : ByteArray).size = 1 from rfl, show (⟨#[97, 98, 99, 100]⟩ : ByteArray).size = 4 from rfl, ByteArray.size_extract, Nat.min_eq_left (show ((wrap64 (((rd_T68 a b).f0) + 1)) : Int).toNat ≤ 4 by omega)] at ae)
 revert H; refine g_ (fun U H => ?_)
 have aT := eq_true U
 have aU : decide (((((⟨#[97, 98, 99, 100]⟩ : ByteArray).extract (((rd_T68 a b).f0) : Int).toNat ((wrap64 (((rd_T68 a b).f0) + 1)) : Int).toNat) ++ (⟨#[40]⟩ : ByteArray)) ++ j).size + 1 ≤ 9223372036854775807) = true := decide_eq_true U
 try have af : (9223372036854775807 < ((((⟨#[97, 98, 99, 100]⟩ : ByteArray).extract (((rd_T68 a b).f0) : Int).toNat ((wrap64 (((rd_T68 a b).f0) + 1)) : Int).toNat) ++ (⟨#[40]⟩ : ByteArray)) ++ j).size + 1) = False := eq_false (Nat.not_lt.2 U)
 try (have ag := af; simp only [ByteArray.size_append', show (⟨#[40]⟩ : ByteArray).size = 1 from rfl, show (⟨#[97, 98, 99, 100]⟩ : ByteArray).size = 4 from rfl, ByteArray.size_extract, Nat.min_eq_left (show ((wrap64 (((rd_T68 a b).f0) + 1)) : Int).toNat ≤ 4 by omega)] at ag)
 revert H; refine bd_ fun q aG H => ?_
 try dsimp only at H
 revert H; refine g_ (fun W H => ?_)
 have aV := eq_true W
 have aW : decide ((((((⟨#[97, 98, 99, 100]⟩ : ByteArray).extract (((rd_T68 a b).f0) : Int).toNat ((wrap64 (((rd_T68 a b).f0) + 1)) : Int).toNat) ++ (⟨#[40]⟩ : ByteArray)) ++ j) ++ (⟨#[44]⟩ : ByteArray)).size + q.size ≤ 9223372036854775807) = true := decide_eq_true W
 try have ah : (9223372036854775807 < (((((⟨#[97, 98, 99, 100]⟩ : ByteArray).extract (((rd_T68 a b).f0) : Int).toNat ((wrap64 (((rd_T68 a b).f0) + 1)) : Int).toNat) ++ (⟨#[40]⟩ : ByteArray)) ++ j) ++ (⟨#[44]⟩ : ByteArray)).size + q.size) = False := eq_false (Nat.not_lt.2 W)
 try (have ai := ah; simp only [ByteArray.size_append', show (⟨#[40]⟩ : ByteArray).size = 1 from rfl, show (⟨#[44]⟩ : ByteArray).size = 1 from rfl, show (⟨#[97, 98, 99, 100]⟩ : ByteArray).size = 4 from rfl, ByteArray.size_extract, Nat.min_eq_left (show ((wrap64 (((rd_T68 a b).f0) + 1)) : Int).toNat ≤ 4 by omega)] at ai)
 revert H; refine g_ (fun X H => ?_)
 have aX := eq_true X
 have aY : decide (((((((⟨#[97, 98, 99, 100]⟩ : ByteArray).extract (((rd_T68 a b).f0) : Int).toNat ((wrap64 (((rd_T68 a b).f0) + 1)) : Int).toNat) ++ (⟨#[40]⟩ : ByteArray)) ++ j) ++ (⟨#[44]⟩ : ByteArray)) ++ q).size + 1 ≤ 9223372036854775807) = true := decide_eq_true X
 try have aj : (9223372036854775807 < ((((((⟨#[97, 98, 99, 100]⟩ : ByteArray).extract (((rd_T68 a b).f0) : Int).toNat ((wrap64 (((rd_T68 a b).f0) + 1)) : Int).toNat) ++ (⟨#[40]⟩ : ByteArray)) ++ j) ++ (⟨#[44]⟩ : ByteArray)) ++ q).size + 1) = False := eq_false (Nat.not_lt.2 X)
 try (have ak := aj; simp only [ByteArray.size_append', show (⟨#[40]⟩ : ByteArray).size = 1 from rfl, show (⟨#[44]⟩ : ByteArray).size = 1 from rfl, show (⟨#[97, 98, 99, 100]⟩ : ByteArray).size = 4 from rfl, ByteArray.size_extract, Nat.min_eq_left (show ((wrap64 (((rd_T68 a b).f0) + 1)) : Int).toNat ≤ 4 by omega)] at ak)
 obtain rfl := Option.some.inj H
 go_enter Tryd.func33, Tryd.ntmps33
 try go_wp2_with (first | ((with_reducible refine gate_dst (N := 2) rfl ?_); refine gx_ 2 #[.int .i64 l, .slice v a.length p] 27 ?_; intro t hg a9 s hb; have c := mk_ (s); have u := gm_ hg HB.out; have M := u; replace HB := hs_ HB hb; clear hb s hg; obtain ⟨av, aw, ax, ay⟩ := b2_ c; obtain ⟨x, au, y, z, A⟩ := at_T68 G.out b oa_ oa_; cases au; replace y := cel HB.out y; replace z := cel HB.out z; replace A := cel HB.out A; obtain ⟨a7, a8⟩ := pq_ (b : Int) (a.length : Int)) | ((with_reducible refine gate_dst (N := 5) rfl ?_); refine gx_ 5 #[.int .i64 0, .int .i64 0, .int .i64 0] 68 ?_; intro g hg O s hb; have d := mk_ (s); have al := gw_ hg HB.out; have aZ := al; replace HB := ht_ HB hb; have o := nl_ hg c.out; have J := ng_ hg c.out; replace c := mk_ (blk_at c.out hb); clear hb s hg; have a0 := J.out; have a2 := o.out; obtain ⟨az, aA, aB, aC, aD, aE⟩ := b3_ d))
 have Y : Aside0 ((((O.setCell ⟨g, 0, none⟩ (.int .i64 ((rd_T68 a b).f0))).setCell ⟨g, 1, none⟩ (.int .i64 ((rd_T68 a b).f1))).setCell ⟨g, 2, none⟩ (.int .i64 ((rd_T68 a b).f2))).heap[t]? = some (.cells #[.int .i64 l, .slice (some x) a.length p] 27 (0, 0))) := ⟨by refine bs_ ?_; refine blk_far ?_ o.out _; refine bs_ ?_; refine blk_far ?_ o.out _; refine bs_ ?_; refine blk_far ?_ o.out _; refine bs_ ?_; exact c.out⟩
 have Z : Aside0 ((((O.setCell ⟨g, 0, none⟩ (.int .i64 ((rd_T68 a b).f0))).setCell ⟨g, 1, none⟩ (.int .i64 ((rd_T68 a b).f1))).setCell ⟨g, 2, none⟩ (.int .i64 ((rd_T68 a b).f2))).heap[g]? = some (.cells #[.int .i64 ((rd_T68 a b).f0), .int .i64 ((rd_T68 a b).f1), .int .i64 ((rd_T68 a b).f2)] 68 (0, 0))) := ⟨by refine bs_ ?_; refine blk_put (cs := #[.int .i64 ((rd_T68 a b).f0), .int .i64 ((rd_T68 a b).f1), .int .i64 0]) ?_ 2 _ rfl; refine bs_ ?_; refine blk_put (cs := #[.int .i64 ((rd_T68 a b).f0), .int .i64 0, .int .i64 0]) ?_ 1 _ rfl; refine bs_ ?_; refine blk_put (cs := #[.int .i64 0, .int .i64 0, .int .i64 0]) ?_ 0 _ rfl; refine bs_ ?_; exact d.out⟩
 have aa : Aside0 (Below w.heap.size w (((O.setCell ⟨g, 0, none⟩ (.int .i64 ((rd_T68 a b).f0))).setCell ⟨g, 1, none⟩ (.int .i64 ((rd_T68 a b).f1))).setCell ⟨g, 2, none⟩ (.int .i64 ((rd_T68 a b).f2)))) := ⟨at_ HB.out⟩
 (try clear c)
 (try clear d)
 (try clear HB)
 generalize (((O.setCell ⟨g, 0, none⟩ (.int .i64 ((rd_T68 a b).f0))).setCell ⟨g, 1, none⟩ (.int .i64 ((rd_T68 a b).f1))).setCell ⟨g, 2, none⟩ (.int .i64 ((rd_T68 a b).f2))) = aH at Y Z aa ⊢
 have c := Y
 have d := Z
 have HB := aa
 clear Y Z aa
 replace c := mk_ (blk_drew c.out)
 replace d := mk_ (blk_drew d.out)
 replace HB := mk_ (below_drew1 HB.out)
 refine start_ (n := 20) (S := fun w' => w'.cell? ⟨g, 0, none⟩ = some (.int .i64 ((rd_T68 a b).f0)) ∧ w'.cell? ⟨g, 1, none⟩ = some (.int .i64 ((rd_T68 a b).f1)) ∧ w'.cell? ⟨g, 2, none⟩ = some (.int .i64 ((rd_T68 a b).f2)) ∧ w'.cell? ⟨t, 0, none⟩ = some (.int .i64 l) ∧ w'.cell? ⟨t, 1, none⟩ = some (.slice (some x) a.length p)) (ds := []) #[false, false, false, false, false, false, false, false, false, false, false, false, false, false, false, false, false, false, false, false] (by kernel_rfl) rfl rfl ⟨(blk_cell d.out 0).trans rfl, (blk_cell d.out 1).trans rfl, (blk_cell d.out 2).trans rfl, (blk_cell c.out 0).trans rfl, (blk_cell c.out 1).trans rfl⟩ (fun m => ?_); refine with_tabW spec_l11Text.tab6 spec_l11Text.bits6 (fun i B => ?_)
 generalize aH.drew = ba at c d HB m ⊢
 refine pus_ 0 (some 18) (ao_ i) ?_
 refine pus_ 2 (some 20) (ao_ i) ?_
 refine pus_ 8 (some 26) (ao_ i) ?_
 refine pus_ 14 (some 32) (ao_ i) ?_
 refine tas_ 1 (some 19) (to_ i B) m ?_
 refine tas_ 3 (some 21) (to_ i B) m ?_
 refine pus_ 4 (some 22) (ao_ i) ?_
 refine pus_ 5 (some 23) (ao_ i) ?_
 refine pus_ 6 (some 24) (ao_ i) ?_
 refine tas_ 7 (some 25) (to_ i B) m ?_
 refine tas_ 9 (some 27) (to_ i B) m ?_
 refine tas_ 13 (some 31) (to_ i B) m ?_
 refine tas_ 15 (some 33) (to_ i B) m ?_
 refine ons_ 10 (some 28) (oo_ i) (fun K hK => ?_)
 refine goes_ Tryd.func33 (by kernel_rfl) rfl #[.agg #[.int .i64 l, .slice (some x) a.length p], .int .i64 ((rd_T68 a b).f1)] (by rfl) rfl rfl gl_ ?_
 with_reducible refine (ih k (by omega) l _ _ a ((rd_T68 a b).f1) j _ ?side1 ?side2 aF.out).mono ?_
 (case side1 => exact Kd.C_below (Kd.C_below G.out HB.out) lt_)
 (case side2 => exact L.out)
 rintro e bb ⟨rfl, hb⟩
 refine ⟨_, rfl, ?_⟩
 replace c := mk_ (blk_at c.out hb)
 replace d := mk_ (blk_at d.out hb)
 replace HB := ht_ HB hb
 (try clear hb)
 (try clear hb2)
 (try clear hk)
 (try clear hi)
 refine hK.out _ _ ⟨(blk_cell d.out 0).trans rfl, (blk_cell d.out 1).trans rfl, (blk_cell d.out 2).trans rfl, (blk_cell c.out 0).trans rfl, (blk_cell c.out 1).trans rfl⟩ (fun m => ?_)
 clear hK K
 refine nor_ (some 28) ?_
 refine pus_ 11 (some 29) (ao_ i) ?_
 refine pus_ 12 (some 30) (ao_ i) ?_
 refine ons_ 16 (some 34) (oo_ i) (fun K hK => ?_)
 refine goes_ Tryd.func33 (by kernel_rfl) rfl #[.agg #[.int .i64 l, .slice (some x) a.length p], .int .i64 ((rd_T68 a b).f2)] (by rfl) rfl rfl gl_ ?_
 with_reducible refine (ih k (by omega) l _ _ a ((rd_T68 a b).f2) q _ ?side1 ?side2 aG.out).mono ?_
 (case side1 => exact Kd.C_below (Kd.C_below G.out HB.out) lt_)
 (case side2 => exact L.out)
 rintro e bc ⟨rfl, hb⟩
 refine ⟨_, rfl, ?_⟩
 replace c := mk_ (blk_at c.out hb)
 replace d := mk_ (blk_at d.out hb)
 replace HB := ht_ HB hb
 (try clear hb)
 (try clear hb2)
 (try clear hk)
 (try clear hi)
 refine hK.out _ _ ⟨(blk_cell d.out 0).trans rfl, (blk_cell d.out 1).trans rfl, (blk_cell d.out 2).trans rfl, (blk_cell c.out 0).trans rfl, (blk_cell c.out 1).trans rfl⟩ (fun m => ?_)
 clear hK K
 refine nor_ (some 34) ?_
 refine pus_ 17 (some 35) (ao_ i) ?_
 refine pus_ 18 (some 36) (ao_ i) ?_
 refine pus_ 19 (some 4) (ao_ i) ?_
 refine done_ (done_of i.out (by kernel_rfl)) ?_
 try go_wp2
 go_ret
 exact ⟨er_, at_ HB.out⟩
def spec_ProofText.f (k : Nat) (a0 : Int) (l1 : List (S79)) (l2 : List (S82)) (a3_0 : Int) (l3_1 : List (S68)) : Option (ByteArray) := (spec_ProofOk.f k a0 l1 l2 a3_0 l3_1).bind fun t282 => (if t282 = true then ((spec_l11Text.f k a3_0 l3_1 a3_0).bind fun t283 => (some t283)) else (some (⟨#[]⟩ : ByteArray)))
theorem spec_ProofText.calls (k : Nat) (q : Int) (t : Option Addr) (u : Nat) (l1 : List (S79)) (v : Option Addr) (c2 : Nat) (j : List (S82)) (b : Int) (d : Option Addr) (g : Nat) (a : List (S68)) (r : ByteArray) (w : World) (z : Kd.C k79 w t l1.length l1) (A : l1.length ≤ u) (B : Kd.C k82 w v j.length j) (D : j.length ≤ c2) (o : Kd.C k68 w d a.length a) (p : a.length ≤ g) (h : spec_ProofText.f k q l1 j b a = some r) :
  Calls Tryd.prog 9 #[.int .i64 q, .slice t l1.length u, .slice v j.length c2, .agg #[.int .i64 b, .slice d a.length g]] w fun e w' => e = .returned (.string r) ∧ Below w.heap.size w w' := by
 have ad := Tryd.underlying27
 have E := mk_ z
 have G := mk_ A
 clear z A
 have I := mk_ B
 have J := mk_ D
 clear B D
 have l := mk_ o
 have m := mk_ p
 clear o p
 have HB := mk_ (Below.refl w.heap.size w)
 unfold spec_ProofText.f at h
 have H := h
 clear h
 revert H; refine bd_ fun ae Y H => ?_
 try dsimp only at H
 revert H; refine bi_ ?_ ?_ <;> rintro rfl H
 ·obtain rfl := Option.some.inj H
  go_enter Tryd.func9, Tryd.ntmps9
  go_wp2_with (first | ((with_reducible refine gate_dst (N := 7) rfl ?_); refine gx_ 7 #[.int .i64 b, .slice d a.length g] 27 ?_; intro x hg ag i hb; have c := mk_ (i); have n := gm_ hg HB.out; have y := n; replace HB := hs_ HB hb; clear hb i hg; obtain ⟨L, M, O, P⟩ := b2_ c) | ((with_reducible refine gate_callee (f := 32) rfl ?_); refine gc_ 32 (some 13) Tryd.func32 #[.int .i64 q, .slice t l1.length u, .slice v j.length c2, .agg #[.int .i64 b, .slice d a.length g]] ?_; (with_reducible refine mo_ (spec_ProofOk.calls k q _ _ l1 _ _ j b _ _ a false _ ?side1 ?side2 ?side3 ?side4 ?side5 ?side6 Y.out) ?_); (case side1 => exact Kd.C_below (Kd.C_below E.out HB.out) lt_); (case side2 => exact G.out); (case side3 => exact Kd.C_below (Kd.C_below I.out HB.out) lt_); (case side4 => exact J.out); (case side5 => exact Kd.C_below (Kd.C_below l.out HB.out) lt_); (case side6 => exact m.out); intro ah hb; replace HB := ht_ HB hb; (try clear c); (try clear hb)))
  go_ret
  exact ⟨er_, at_ HB.out⟩
 replace H := Option.bind_eq_some_iff.mp H
 obtain ⟨s, K, H⟩ := H
 replace H : (some s) = some r := H
 have A7 := mk_ K
 clear K
 obtain rfl := Option.some.inj H
 go_enter Tryd.func9, Tryd.ntmps9
 go_wp2_with (first | ((with_reducible refine gate_dst (N := 7) rfl ?_); refine gx_ 7 #[.int .i64 b, .slice d a.length g] 27 ?_; intro x hg w8 i hb; have c := mk_ (i); have n := gm_ hg HB.out; have y := n; replace HB := hs_ HB hb; clear hb i hg; obtain ⟨Z, aa, ab, ac⟩ := b2_ c) | ((with_reducible refine gate_callee (f := 32) rfl ?_); refine gc_ 32 (some 13) Tryd.func32 #[.int .i64 q, .slice t l1.length u, .slice v j.length c2, .agg #[.int .i64 b, .slice d a.length g]] ?_; (with_reducible refine mo_ (spec_ProofOk.calls k q _ _ l1 _ _ j b _ _ a true _ ?side1 ?side2 ?side3 ?side4 ?side5 ?side6 Y.out) ?_); (case side1 => exact Kd.C_below (Kd.C_below E.out HB.out) lt_); (case side2 => exact G.out); (case side3 => exact Kd.C_below (Kd.C_below I.out HB.out) lt_); (case side4 => exact J.out); (case side5 => exact Kd.C_below (Kd.C_below l.out HB.out) lt_); (case side6 => exact m.out); intro ai hb; replace c := mk_ (blk_at c.out hb); replace HB := ht_ HB hb; (try clear hb); obtain ⟨T, U, W, X⟩ := b2_ c) | ((with_reducible refine gate_callee (f := 33) rfl ?_); refine gc_ 33 (some 18) Tryd.func33 #[.agg #[.int .i64 b, .slice d a.length g], .int .i64 b] ?_; (with_reducible refine mo_ (spec_l11Text.calls k b _ _ a b s _ ?side1 ?side2 A7.out) ?_); (case side1 => exact Kd.C_below (Kd.C_below l.out HB.out) lt_); (case side2 => exact m.out); intro aj hb; replace HB := ht_ HB hb; (try clear c); (try clear hb)))
 go_ret
 exact ⟨er_, at_ HB.out⟩
end Go.Proofs.YtcaogllnbpmcgaaDoor.P

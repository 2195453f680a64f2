/- Go's functions come to just the answers of the Lean functions told here. -/
import Derived.Test.YtcaogllnbpmcgaaDoorPx18
set_option maxHeartbeats 8000000
set_option maxRecDepth 100000
namespace Go.Proofs.YtcaogllnbpmcgaaDoor.P
open Go.RowKit Go.Proofs.YtcaogllnbpmcgaaDoorW.PrintWords Go.Proofs.YtcaogllnbpmcgaaDoorW.PrintLast Go.Proofs.YtcaogllnbpmcgaaDoorW.PrintMore
attribute [local go_sem] max2_int min2_int max_two min_two max_three min_three max_four min_four
set_option linter.unusedVariables false
set_option linter.unusedSimpArgs false
def spec_l3Holds.f : Nat → List (S82) → Int → Option (Bool)
 | 0, _, _ => none
 | k + 1, l0, a1 => if 0 ≤ (wrap64 ((l0.length : Int) - 1)) then (if (wrap64 ((l0.length : Int) - 1)) < (l0.length : Int) then (if ((rd_T82 l0 (wrap64 ((l0.length : Int) - 1))).f0) = 0 then (if 0 ≤ ((rd_T82 l0 (wrap64 ((l0.length : Int) - 1))).f1) then (some ((Int.tmod (shr .i64 a1 ((rd_T82 l0 (wrap64 ((l0.length : Int) - 1))).f1)) 2) == 1)) else (none)) else (if ((rd_T82 l0 (wrap64 ((l0.length : Int) - 1))).f0) = 1 then ((spec_l1Heads.f k a1).bind fun t201 => (some (decide (t201 ≥ ((rd_T82 l0 (wrap64 ((l0.length : Int) - 1))).f1))))) else (if ((rd_T82 l0 (wrap64 ((l0.length : Int) - 1))).f0) = 2 then (if (wrap64 ((l0.length : Int) - 1)) ≤ (l0.length : Int) then ((spec_l3Holds.f k (l0.take ((wrap64 ((l0.length : Int) - 1)) : Int).toNat) a1).bind fun t207 => (some (!t207))) else (none)) else ((spec_l2Starts.f k l0 (wrap64 ((wrap64 ((l0.length : Int) - 1)) - 1))).bind fun t208 => (if 0 ≤ t208 then (if t208 ≤ (l0.length : Int) then ((spec_l3Holds.f k (l0.take (t208 : Int).toNat) a1).bind fun t213 => (if t208 ≤ (wrap64 ((l0.length : Int) - 1)) then (if (wrap64 ((l0.length : Int) - 1)) ≤ (l0.length : Int) then ((spec_l3Holds.f k ((l0.take ((wrap64 ((l0.length : Int) - 1)) : Int).toNat).drop (t208 : Int).toNat) a1).bind fun t218 => (if ((rd_T82 l0 (wrap64 ((l0.length : Int) - 1))).f0) = 3 then (if t213 = true then (some t218) else (some false)) else (if ((rd_T82 l0 (wrap64 ((l0.length : Int) - 1))).f0) = 4 then (if t213 = true then (some true) else (some t218)) else (some (t213 == t218))))) else (none)) else (none))) else (none)) else (none)))))) else (none)) else (none)
theorem spec_l3Holds.calls (k : Nat) : ∀ (A0 : Option Addr) (o : Nat) (l0 : List (S82)) (j : Int) (r : Bool) (w : World) (an : Kd.C k82 w A0 l0.length l0) (ao : l0.length ≤ o) (h : spec_l3Holds.f k l0 j = some r),
  Calls Tryd.prog 100 #[.slice A0 l0.length o, .int .i64 j] w fun e w' => e = .returned (.bool r) ∧ Drawn0 w w' := by
 induction k using Nat.strongRecOn with
 | _ k ih =>
 intro A0 o l0 j r w an ao h
 cases k with
 | zero => exact absurd h (by simp [spec_l3Holds.f])
 | succ k =>
 simp only [spec_l3Holds.f] at h
 have i := mk_ an
 have af := mk_ ao
 clear an ao
 have H : (if 0 ≤ (wrap64 ((l0.length : Int) - 1)) then (if (wrap64 ((l0.length : Int) - 1)) < (l0.length : Int) then (if ((rd_T82 l0 (wrap64 ((l0.length : Int) - 1))).f0) = 0 then (if 0 ≤ ((rd_T82 l0 (wrap64 ((l0.length : Int) - 1))).f1) then (some ((Int.tmod (shr .i64 j ((rd_T82 l0 (wrap64 ((l0.length : Int) - 1))).f1)) 2) == 1)) else (none)) else (if ((rd_T82 l0 (wrap64 ((l0.length : Int) - 1))).f0) = 1 then ((spec_l1Heads.f k j).bind fun z => (some (decide (z ≥ ((rd_T82 l0 (wrap64 ((l0.length : Int) - 1))).f1))))) else (if ((rd_T82 l0 (wrap64 ((l0.length : Int) - 1))).f0) = 2 then (if (wrap64 ((l0.length : Int) - 1)) ≤ (l0.length : Int) then ((spec_l3Holds.f k (l0.take ((wrap64 ((l0.length : Int) - 1)) : Int).toNat) j).bind fun q => (some (!q))) else (none)) else ((spec_l2Starts.f k l0 (wrap64 ((wrap64 ((l0.length : Int) - 1)) - 1))).bind fun b => (if 0 ≤ b then (if b ≤ (l0.length : Int) then ((spec_l3Holds.f k (l0.take (b : Int).toNat) j).bind fun A => (if b ≤ (wrap64 ((l0.length : Int) - 1)) then (if (wrap64 ((l0.length : Int) - 1)) ≤ (l0.length : Int) then ((spec_l3Holds.f k ((l0.take ((wrap64 ((l0.length : Int) - 1)) : Int).toNat).drop (b : Int).toNat) j).bind fun B => (if ((rd_T82 l0 (wrap64 ((l0.length : Int) - 1))).f0) = 3 then (if A = true then (some B) else (some false)) else (if ((rd_T82 l0 (wrap64 ((l0.length : Int) - 1))).f0) = 4 then (if A = true then (some true) else (some B)) else (some (A == B))))) else (none)) else (none))) else (none)) else (none)))))) else (none)) else (none)) = some r := h
 clear h
 obtain ⟨a, g⟩ : ∃ j_ : Int, (wrap64 ((l0.length : Int) - 1)) = j_ := ⟨_, rfl⟩
 first | rw [g] at H | simp only [g] at H
 have be : (IntKind.i64.wrap ((l0.length : Int) - 1)) = a := (i64_w _).trans g
 revert H; refine g_ (dt_ fun bx => g_ (dt_ fun bz => it_ (qt_ fun aV aW H => ?_) (qfk_ fun c6 aV aW H => ?_)))
 ·revert H; refine g_ (et_ fun bA bB H => ?_)
  obtain ⟨aT, D⟩ : ∃ j_ : Int, (shr .i64 j ((rd_T82 l0 (a)).f1)) = j_ := ⟨_, rfl⟩
  first | rw [D] at H | simp only [D] at H
  have bf : (j / 2 ^ min ((rd_T82 l0 (a)).f1).toNat 64) = aT := D
  have bg : ((rd_T82 l0 (a)).f1) ≤ 64 → (j / 2 ^ ((rd_T82 l0 (a)).f1).toNat) = aT := shr_small D
  obtain rfl := Option.some.inj H
  obtain ⟨d, n, s, t⟩ := at_T82 i.out (a) oa_ oa_
  cases n
  obtain ⟨X, Y⟩ := pq_ ((a) : Int) (l0.length : Int)
  obtain ⟨aF, aX, a4, a5⟩ := at_T82 i.out (a) oa_ oa_
  obtain rfl : d = aF := (by injection aX)
  obtain ⟨bC, bD⟩ := pq_ ((a) : Int) (l0.length : Int)
  go_enter Tryd.func100, Tryd.ntmps100
  go_wp2
  repeat (go_quiet (fail); try go_wp2)
  go_ret
  exact ⟨by first | rfl | (simp; done) | (simp only [← g, ← D] <;> (first | rfl | simp)) | (simp [*]; done), by repeat (first | exact Drawn0.refl _ | apply Drawn0.step)⟩
 revert H; refine it_ (qt_ fun aY aZ H => ?_) (qfk_ fun c9 aY aZ H => ?_)
 ·revert H; refine bd_ fun z ap H => ?_
  try dsimp only at H
  obtain rfl := Option.some.inj H
  obtain ⟨d, n, s, t⟩ := at_T82 i.out (a) oa_ oa_
  cases n
  obtain ⟨X, Y⟩ := pq_ ((a) : Int) (l0.length : Int)
  go_enter Tryd.func100, Tryd.ntmps100
  go_wp2_with (first | (go_at_call 109; (with_reducible refine (spec_l1Heads.calls k j z _ ap.out).mono ?_); rintro e w' ⟨rfl, ⟨nd, rfl⟩⟩; (try exact dr_); obtain ⟨p, E, J, K⟩ := at_T82 i.out (a) oa_ oa_; obtain rfl : d = p := (by injection E); obtain ⟨aq, ar⟩ := pq_ ((a) : Int) (l0.length : Int)))
  repeat (go_quiet (first | (go_at_call 109; (with_reducible refine (spec_l1Heads.calls k j z _ ap.out).mono ?_); rintro e w' ⟨rfl, ⟨nd, rfl⟩⟩; (try exact dr_); obtain ⟨p, E, J, K⟩ := at_T82 i.out (a) oa_ oa_; obtain rfl : d = p := (by injection E); obtain ⟨aq, ar⟩ := pq_ ((a) : Int) (l0.length : Int))); try go_wp2_with (first | (go_at_call 109; (with_reducible refine (spec_l1Heads.calls k j z _ ap.out).mono ?_); rintro e w' ⟨rfl, ⟨nd, rfl⟩⟩; (try exact dr_); obtain ⟨p, E, J, K⟩ := at_T82 i.out (a) oa_ oa_; obtain rfl : d = p := (by injection E); obtain ⟨aq, ar⟩ := pq_ ((a) : Int) (l0.length : Int))))
  go_ret
  exact ⟨by first | rfl | (simp; done) | (simp only [← g] <;> (first | rfl | simp)) | (simp [*]; done), by repeat (first | exact Drawn0.refl _ | apply Drawn0.step)⟩
 revert H; refine it_ (qt_ fun aG aH H => ?_) (qfk_ fun bP aG aH H => ?_)
 ·have bh := eq_true (oa_ : 0 ≤ (a))
  revert H; refine g_ (et_ fun bj bk H => ?_)
  obtain ⟨G, v⟩ : ∃ y_ : List (S82), y_ = (l0.take ((a) : Int).toNat) := ⟨_, rfl⟩
  first | (replace H := bn_ v H; try dsimp only at H) | rw [← v] at H
  have ag := mk_ v
  clear v
  replace H := Option.bind_eq_some_iff.mp H
  obtain ⟨q, au, H⟩ := H
  replace H : (some (!q)) = some r := H
  have av := mk_ au
  clear au
  obtain rfl := Option.some.inj H
  obtain ⟨d, n, s, t⟩ := at_T82 i.out (a) oa_ oa_
  cases n
  obtain ⟨X, Y⟩ := pq_ ((a) : Int) (l0.length : Int)
  have aw : ((a) : Int) ≤ ((l0.length : Int) : Int) := oa_
  obtain ⟨bE, ah, _, aI, _⟩ := info_parts info82
  have L : l0.length ≤ o := af.out
  have ax : Kd.C k82 _ (some d) l0.length l0 := i.out
  have ay := cut_to (P := Tryd.prog) 24 82 .i64 Tryd.underlying24 ah (some d) l0.length o (a) (oa_) aw L
  have Z := Kd.C_take (m := ((a) : Int).toNat) ax (by omega)
  have aa : G.length = ((a) : Int).toNat := (by rw [ag.out, List.length_take]; omega)
  rw [← ag.out] at Z
  rw [← aa] at ay
  have O := mk_ Z
  have T := mk_ (show G.length ≤ o from by omega)
  clear Z ax L ah aI
  have bF := mk_ aa
  clear aa
  replace aw := eq_true aw
  go_enter Tryd.func100, Tryd.ntmps100
  go_wp2_with (first | (go_at_call 100; (with_reducible refine (ih k (by omega) _ _ G j q _ ?side1 ?side2 av.out).mono ?_); (case side1 => exact Kd.C_below O.out lt_); (case side2 => exact T.out); rintro e w' ⟨rfl, ⟨nd, rfl⟩⟩; (try exact dr_)))
  repeat (go_quiet (first | (go_at_call 100; (with_reducible refine (ih k (by omega) _ _ G j q _ ?side1 ?side2 av.out).mono ?_); (case side1 => exact Kd.C_below O.out lt_); (case side2 => exact T.out); rintro e w' ⟨rfl, ⟨nd, rfl⟩⟩; (try exact dr_))); try go_wp2_with (first | (go_at_call 100; (with_reducible refine (ih k (by omega) _ _ G j q _ ?side1 ?side2 av.out).mono ?_); (case side1 => exact Kd.C_below O.out lt_); (case side2 => exact T.out); rintro e w' ⟨rfl, ⟨nd, rfl⟩⟩; (try exact dr_))))
  go_ret
  exact ⟨by first | rfl | (simp; done) | (simp only [← g] <;> (first | rfl | simp)) | (simp [*]; done), by repeat (first | exact Drawn0.refl _ | apply Drawn0.step)⟩
 revert H; refine bd_ fun b a8 H => ?_
 try dsimp only at H
 revert H; refine g_ (et_ fun bn bo => g_ (et_ fun bp bq H => ?_))
 obtain ⟨ab, x⟩ : ∃ y_ : List (S82), y_ = (l0.take (b : Int).toNat) := ⟨_, rfl⟩
 first | (replace H := bn_ x H; try dsimp only at H) | rw [← x] at H
 have ai := mk_ x
 clear x
 revert H; refine bd_ fun A a9 H => ?_
 try dsimp only at H
 have br := eq_true (oa_ : 0 ≤ b)
 revert H; refine g_ (et_ fun bs bu => g_ (et_ fun bv bw H => ?_))
 obtain ⟨u, y⟩ : ∃ y_ : List (S82), y_ = ((l0.take ((a) : Int).toNat).drop (b : Int).toNat) := ⟨_, rfl⟩
 first | (replace H := bn_ y H; try dsimp only at H) | rw [← y] at H
 have aj := mk_ y
 clear y
 revert H; refine bd_ fun B ba H => ?_
 try dsimp only at H
 obtain ⟨d, n, s, t⟩ := at_T82 i.out (a) oa_ oa_
 cases n
 obtain ⟨X, Y⟩ := pq_ ((a) : Int) (l0.length : Int)
 go_enter Tryd.func100, Tryd.ntmps100
 go_upto_region 13 with (first | (go_at_call 110; (with_reducible refine (spec_l2Starts.calls k _ _ l0 (wrap64 ((a) - 1)) b _ ?side1 ?side2 a8.out).mono ?_); (case side1 => exact Kd.C_below i.out lt_); (case side2 => exact af.out); rintro e w' ⟨rfl, ⟨nd, rfl⟩⟩; (try exact dr_); have az : (b : Int) ≤ ((l0.length : Int) : Int) := oa_; obtain ⟨bG, ak, _, aJ, _⟩ := info_parts info82; have M : l0.length ≤ o := af.out; have aA : Kd.C k82 _ (some d) l0.length l0 := i.out; have aB := cut_to (P := Tryd.prog) 24 82 .i64 Tryd.underlying24 ak (some d) l0.length o b (oa_) az M; have ac := Kd.C_take (m := (b : Int).toNat) aA (by omega); have ad : ab.length = (b : Int).toNat := (by rw [ai.out, List.length_take]; omega); rw [← ai.out] at ac; rw [← ad] at aB; have aK := mk_ ac; have aL := mk_ (show ab.length ≤ o from by omega); clear ac aA M ak aJ; have bH := mk_ ad; clear ad; replace az := eq_true az) | (go_at_call 100; (with_reducible refine (ih k (by omega) _ _ ab j A _ ?side1 ?side2 a9.out).mono ?_); (case side1 => exact Kd.C_below aK.out lt_); (case side2 => exact aL.out); rintro e w' ⟨rfl, ⟨nd, rfl⟩⟩; (try exact dr_); have aC : ((a) : Int) ≤ ((l0.length : Int) : Int) := oa_; obtain ⟨bI, al, _, am, _⟩ := info_parts info82; have l : l0.length ≤ o := af.out; have aD : Kd.C k82 _ (some d) l0.length l0 := i.out; have a0 : (b : Int) ≤ ((a) : Int) := oa_; have a2 : (0 : Int) ≤ (b : Int) := oa_; have aE := cut_mid (P := Tryd.prog) 24 82 .i64 .i64 Tryd.underlying24 al 2 am (some d) l0.length o b (a) a2 a0 aC l; have I := Kd.C_mid (lo := (b : Int).toNat) (hi := ((a) : Int).toNat) (c := o) aD (by omega) (by omega) l; obtain ⟨bb, U⟩ : ∃ A1, A1 = (if o = (b : Int).toNat then (some d) else ((some d) : Option Addr).map (·.add ((b : Int).toNat * 2))) := ⟨_, rfl⟩; obtain ⟨bc, ae⟩ : ∃ c1, c1 = o - (b : Int).toNat := ⟨_, rfl⟩; have W : u.length = ((a) : Int).toNat - (b : Int).toNat := (by rw [aj.out, List.length_drop, List.length_take] <;> omega); rw [show ((l0).take ((a) : Int).toNat).drop (b : Int).toNat = u from aj.out.symm] at I; replace I : Kd.C k82 _ bb u.length u := (by rw [U]; exact I); rw [← W, ← U, ← ae] at aE; have aM := mk_ I; have aN := mk_ (show u.length ≤ bc from by rw [W, ae]; exact Nat.sub_le_sub_right (Nat.le_trans (by omega) l) _); clear I aD l al am ae; have bL := mk_ W; have bM := mk_ U; clear W U; replace aC := eq_true aC) | (go_at_call 100; (with_reducible refine (ih k (by omega) _ _ u j B _ ?side1 ?side2 ba.out).mono ?_); (case side1 => exact Kd.C_below aM.out lt_); (case side2 => exact aN.out); rintro e w' ⟨rfl, ⟨nd, rfl⟩⟩; (try exact dr_); obtain ⟨aO, a3, a6, a7⟩ := at_T82 i.out (a) oa_ oa_; obtain rfl : d = aO := (by injection a3); obtain ⟨bN, bO⟩ := pq_ ((a) : Int) (l0.length : Int)))
 revert H; refine it_ (qt_ fun aP aQ H => ?_) (qfk_ fun bQ aP aQ H => ?_)
 ·revert H; refine ib_ ?_ ?_ <;> rintro rfl H
  ·obtain rfl := Option.some.inj H
   go_wp2
   repeat (go_quiet (fail); try go_wp2)
   go_ret
   exact ⟨by first | rfl | (simp; done) | (simp only [← g] <;> (first | rfl | simp)) | (simp [*]; done), by repeat (first | exact Drawn0.refl _ | apply Drawn0.step)⟩
  obtain rfl := Option.some.inj H
  go_wp2
  repeat (go_quiet (fail); try go_wp2)
  go_ret
  exact ⟨by first | rfl | (simp; done) | (simp only [← g] <;> (first | rfl | simp)) | (simp [*]; done), by repeat (first | exact Drawn0.refl _ | apply Drawn0.step)⟩
 revert H; refine ti_ (qfk_ fun bR aR aS H => ?_) (qt_ fun aR aS H => ?_)
 ·obtain rfl := Option.some.inj H
  go_wp2
  repeat (go_quiet (fail); try go_wp2)
  go_ret
  exact ⟨by first | rfl | (simp; done) | (simp only [← g] <;> (first | rfl | simp)) | (simp [*]; done), by repeat (first | exact Drawn0.refl _ | apply Drawn0.step)⟩
 revert H; refine ib_ ?_ ?_ <;> rintro rfl H
 ·obtain rfl := Option.some.inj H
  go_wp2
  repeat (go_quiet (fail); try go_wp2)
  go_ret
  exact ⟨by first | rfl | (simp; done) | (simp only [← g] <;> (first | rfl | simp)) | (simp [*]; done), by repeat (first | exact Drawn0.refl _ | apply Drawn0.step)⟩
 obtain rfl := Option.some.inj H
 go_wp2
 repeat (go_quiet (fail); try go_wp2)
 go_ret
 exact ⟨by first | rfl | (simp; done) | (simp only [← g] <;> (first | rfl | simp)) | (simp [*]; done), by repeat (first | exact Drawn0.refl _ | apply Drawn0.step)⟩
def spec_l3Table.l0 : Nat → Int → List (S82) → Int → Int → Option (Int)
 | 0, _, _, _, _ => none
 | k + 1, x0, x1, x5, x6 => if 0 ≤ x0 then (if x6 < (shl .i64 1 x0) then ((spec_l3Holds.f k x1 x6).bind fun t220 => (if t220 = true then (if 0 ≤ x6 then (spec_l3Table.l0 k x0 x1 (Go.bits .or .i64 x5 (shl .i64 1 x6)) (wrap64 (x6 + 1))) else (none)) else (spec_l3Table.l0 k x0 x1 x5 (wrap64 (x6 + 1))))) else (some x5)) else (none)
def spec_l3Table.f (k : Nat) (a0 : Int) (l1 : List (S82)) : Option (Int) := spec_l3Table.l0 k a0 l1 0 0
theorem spec_l3Table.calls (k : Nat) (b : Int) (s : Option Addr) (q : Nat) (l1 : List (S82)) (r : Int) (w : World) (u : Kd.C k82 w s l1.length l1) (v : l1.length ≤ q) (h : spec_l3Table.f k b l1 = some r) :
  Calls Tryd.prog 92 #[.int .i64 b, .slice s l1.length q] w fun e w' => e = .returned (.int .i64 r) ∧ Drawn0 w w' := by
 have x := mk_ u
 have y := mk_ v
 clear u v
 have H : (spec_l3Table.l0 k b l1 0 0) = some r := h
 clear h
 have H' := mk_ H
 clear H
 go_enter Tryd.func92, Tryd.ntmps92
 go_wp2
 go_loopg [5, 6] k (fun kq M O w' => ∃ (d : Int) (a : Int), M = .int .i64 d ∧ O = .int .i64 a ∧ Aside0 (spec_l3Table.l0 kq b l1 d a = some r) ∧ Aside0 (kq ≤ k) ∧ Drawn0 w w')
 case atStart => exact ⟨(0), (0), sm_, sm_, H', ⟨Nat.le_refl _⟩, by repeat (first | exact Drawn0.refl _ | apply Drawn0.step)⟩
 clear H'
 try clear q
 obtain ⟨d, a, rfl, rfl, HA, l, ⟨Y, rfl⟩⟩ := hrel
 cases gk with
 | zero => exact absurd HA.out (by simp [spec_l3Table.l0])
 | succ t =>
  have H := HA.out
  clear HA
  simp only [spec_l3Table.l0] at H
  revert H; refine g_ (et_ fun P T H => ?_)
  obtain ⟨j, g⟩ : ∃ j_ : Int, (shl .i64 1 b) = j_ := ⟨_, rfl⟩
  first | rw [g] at H | simp only [g] at H
  have m : (IntKind.i64.wrap (1 * 2 ^ min b.toNat 64)) = j := g
  have n : b ≤ 64 → (IntKind.i64.wrap (1 * 2 ^ b.toNat)) = j := shl_small g
  have B : (IntKind.i64.wrap (2 ^ min b.toNat 64)) = j := by have h_ := m; rw [Int.one_mul] at h_; exact h_
  have D : b ≤ 64 → (IntKind.i64.wrap (2 ^ b.toNat)) = j := fun hle_ => by have h_ := n hle_; rw [Int.one_mul] at h_; exact h_
  have E : (wrap64 (1 * 2 ^ min b.toNat 64)) = j := (i64_w _).symm.trans m
  have G : b ≤ 64 → (wrap64 (1 * 2 ^ b.toNat)) = j := fun h_ => (i64_w _).symm.trans (n h_)
  revert H; refine ti_ (df_ fun z H => ?_) (dt_ fun z H => ?_)
  ·obtain rfl := Option.some.inj H
   go_wp2
   go_ret
   exact ⟨by first | rfl | (simp; done) | (simp only [← g] <;> (first | rfl | simp)) | (simp [*]; done), by repeat (first | exact Drawn0.refl _ | apply Drawn0.step)⟩
  revert H; refine bd_ fun U A H => ?_
  try dsimp only at H
  revert H; refine bi_ ?_ ?_ <;> rintro rfl H
  ·have H' := mk_ H
   clear H
   go_wp2_with (first | (refine gc_ 100 (some 15) Tryd.func100 #[.slice s l1.length q, .int .i64 a] ?_; (with_reducible refine (spec_l3Holds.calls t _ _ l1 a false _ ?side1 ?side2 A.out).mono ?_); (case side1 => exact Kd.C_below x.out lt_); (case side2 => exact y.out); rintro e w' ⟨rfl, ⟨nd, rfl⟩⟩; refine ⟨_, rfl, ?_⟩))
   go_roundg t
   case measure => have := l.out; omega
   case rel => exact ⟨(d), (wrap64 (a + 1)), sm_, sm_, H', ⟨by have := l.out; omega⟩, by repeat (first | exact Drawn0.refl _ | apply Drawn0.step)⟩
  revert H; refine g_ (et_ fun W X H => ?_)
  obtain ⟨i, c⟩ : ∃ j_ : Int, (shl .i64 1 a) = j_ := ⟨_, rfl⟩
  first | rw [c] at H | simp only [c] at H
  (try rw [c] at A)
  have o : (IntKind.i64.wrap (1 * 2 ^ min a.toNat 64)) = i := c
  have p : a ≤ 64 → (IntKind.i64.wrap (1 * 2 ^ a.toNat)) = i := shl_small c
  have I : (IntKind.i64.wrap (2 ^ min a.toNat 64)) = i := by have h_ := o; rw [Int.one_mul] at h_; exact h_
  have J : a ≤ 64 → (IntKind.i64.wrap (2 ^ a.toNat)) = i := fun hle_ => by have h_ := p hle_; rw [Int.one_mul] at h_; exact h_
  have K : (wrap64 (1 * 2 ^ min a.toNat 64)) = i := (i64_w _).symm.trans o
  have L : a ≤ 64 → (wrap64 (1 * 2 ^ a.toNat)) = i := fun h_ => (i64_w _).symm.trans (p h_)
  have H' := mk_ H
  clear H
  go_wp2_with (first | (refine gc_ 100 (some 15) Tryd.func100 #[.slice s l1.length q, .int .i64 a] ?_; (with_reducible refine (spec_l3Holds.calls t _ _ l1 a true _ ?side1 ?side2 A.out).mono ?_); (case side1 => exact Kd.C_below x.out lt_); (case side2 => exact y.out); rintro e w' ⟨rfl, ⟨nd, rfl⟩⟩; refine ⟨_, rfl, ?_⟩))
  go_roundg t
  case measure => have := l.out; omega
  case rel => exact ⟨(Go.bits .or .i64 d (i)), (wrap64 (a + 1)), (by first | rfl | (simp; done) | (simp only [← c] <;> (first | rfl | simp)) | (simp [*]; done)), sm_, H', ⟨by have := l.out; omega⟩, by repeat (first | exact Drawn0.refl _ | apply Drawn0.step)⟩
def spec_l4May.f (k : Nat) (a0_0 : Int) (l0_1 : List (S82)) (a1 : Int) : Option (Bool) := if 0 ≤ a0_0 then ((spec_l3Holds.f k l0_1 a1).bind fun t222 => (some (((Int.tmod (shr .i64 a1 a0_0) 2) == 1) == t222))) else (none)
theorem spec_l4May.calls (k : Nat) (b : Int) (i : Option Addr) (j : Nat) (a : List (S82)) (o : Int) (r : Bool) (w : World) (v : Kd.C k82 w i a.length a) (x : a.length ≤ j) (h : spec_l4May.f k b a o = some r) :
  Calls Tryd.prog 101 #[.agg #[.int .i64 b, .slice i a.length j], .int .i64 o] w fun e w' => e = .returned (.bool r) ∧ Below w.heap.size w w' := by
 have M := Tryd.underlying79
 have m := mk_ v
 have n := mk_ x
 clear v x
 have HB := mk_ (Below.refl w.heap.size w)
 unfold spec_l4May.f at h
 have H := h
 clear h
 revert H; refine g_ (et_ fun O P H => ?_)
 obtain ⟨A, l⟩ : ∃ j_ : Int, (shr .i64 o b) = j_ := ⟨_, rfl⟩
 first | rw [l] at H | simp only [l] at H
 have K : (o / 2 ^ min b.toNat 64) = A := l
 have L : b ≤ 64 → (o / 2 ^ b.toNat) = A := shr_small l
 revert H; refine bd_ fun u I H => ?_
 try dsimp only at H
 obtain rfl := Option.some.inj H
 go_enter Tryd.func101, Tryd.ntmps101
 go_wp2_with (first | (refine gx_ 2 #[.int .i64 b, .slice i a.length j] 79 ?_; intro y hg J c hb; have d := mk_ (c); have g := gm_ hg HB.out; have z := g; replace HB := hs_ HB hb; clear hb c hg; obtain ⟨p, q, s, t⟩ := b2_ d) | (go_at_call 100; (with_reducible refine (spec_l3Holds.calls k _ _ a o u _ ?side1 ?side2 I.out).mono ?_); (case side1 => exact Kd.C_below (Kd.C_below m.out HB.out) lt_); (case side2 => exact n.out); rintro e w' ⟨rfl, ⟨nd, rfl⟩⟩; (try exact dr_)))
 repeat (go_quiet (first | (refine gx_ 2 #[.int .i64 b, .slice i a.length j] 79 ?_; intro y hg J c hb; have B := mk_ (below_step (below_at HB.out) hb); have D := mk_ (c); have E := mk_ (gb_ hg HB.out); have G := mk_ (gb_ hg HB.out); clear HB; have HB := B; have d := D; have g := E; have z := G; clear B D E G; clear hb c hg; obtain ⟨p, q, s, t⟩ := b2_ d) | (go_at_call 100; (with_reducible refine (spec_l3Holds.calls k _ _ a o u _ ?side1 ?side2 I.out).mono ?_); (case side1 => exact Kd.C_below (Kd.C_below m.out HB.out) lt_); (case side2 => exact n.out); rintro e w' ⟨rfl, ⟨nd, rfl⟩⟩; (try exact dr_))); try go_wp2_with (first | (refine gx_ 2 #[.int .i64 b, .slice i a.length j] 79 ?_; intro y hg J c hb; have d := mk_ (c); have g := gm_ hg HB.out; have z := g; replace HB := hs_ HB hb; clear hb c hg; obtain ⟨p, q, s, t⟩ := b2_ d) | (go_at_call 100; (with_reducible refine (spec_l3Holds.calls k _ _ a o u _ ?side1 ?side2 I.out).mono ?_); (case side1 => exact Kd.C_below (Kd.C_below m.out HB.out) lt_); (case side2 => exact n.out); rintro e w' ⟨rfl, ⟨nd, rfl⟩⟩; (try exact dr_))))
 go_ret
 exact ⟨by first | rfl | (simp [errW_none, errW_some] <;> rfl) | (simp only [← l]; first | rfl | (simp [errW_none, errW_some] <;> rfl)) | (simp [*, errW_none, errW_some] <;> rfl), at_ HB.out⟩
def spec_l4Table.l0 : Nat → Int → Int → Int → Int → List (S82) → Option (Int)
 | 0, _, _, _, _, _ => none
 | k + 1, x0, x5, x6, x224000, x224001 => if 0 ≤ x0 then (if x6 < (shl .i64 1 x0) then ((spec_l4May.f k x224000 x224001 x6).bind fun t224 => (if t224 = true then (if 0 ≤ x6 then (spec_l4Table.l0 k x0 (Go.bits .or .i64 x5 (shl .i64 1 x6)) (wrap64 (x6 + 1)) x224000 x224001) else (none)) else (spec_l4Table.l0 k x0 x5 (wrap64 (x6 + 1)) x224000 x224001))) else (some x5)) else (none)
def spec_l4Table.f (k : Nat) (a0 : Int) (a1_0 : Int) (l1_1 : List (S82)) : Option (Int) := spec_l4Table.l0 k a0 0 0 a1_0 l1_1
theorem spec_l4Table.calls (k : Nat) (m : Int) (d : Int) (g : Option Addr) (i : Nat) (c : List (S82)) (r : Int) (w : World) (u : Kd.C k82 w g c.length c) (v : c.length ≤ i) (h : spec_l4Table.f k m d c = some r) :
  Calls Tryd.prog 93 #[.int .i64 m, .agg #[.int .i64 d, .slice g c.length i]] w fun e w' => e = .returned (.int .i64 r) ∧ Below w.heap.size w w' := by
 have ag := Tryd.underlying79
 have x := mk_ u
 have y := mk_ v
 clear u v
 have HB := mk_ (Below.refl w.heap.size w)
 have H : (spec_l4Table.l0 k m 0 0 d c) = some r := h
 clear h
 have H' := mk_ H
 clear H
 go_enter Tryd.func93, Tryd.ntmps93
 go_wp2_with (first | (refine gx_ 3 #[.int .i64 d, .slice g c.length i] 79 ?_; intro n hg w3 D hb; have a := mk_ (D); have E := gm_ hg HB.out; have ab := E; replace HB := hs_ HB hb; clear hb D hg))
 go_loopg [5, 6] k (fun kq v5 v6 w' => ∃ (o : Int) (b : Int), v5 = .int .i64 o ∧ v6 = .int .i64 b ∧ Aside0 (spec_l4Table.l0 kq m o b d c = some r) ∧ Aside0 (kq ≤ k) ∧ Aside0 (w'.heap[n]? = some (.cells #[.int .i64 d, (.slice g c.length i)] 79 (0, 0))) ∧ Aside0 (Below w.heap.size w w'))
 case atStart => exact ⟨(0), (0), sm_, sm_, H', ⟨Nat.le_refl _⟩, ⟨by refine bs_ ?_; exact a.out⟩, ⟨at_ HB.out⟩⟩
 clear H'
 obtain ⟨o, b, rfl, rfl, HA, z, a, HB⟩ := hrel
 cases gk with
 | zero => exact absurd HA.out (by simp [spec_l4Table.l0])
 | succ G =>
  have H := HA.out
  clear HA
  simp only [spec_l4Table.l0] at H
  revert H; refine g_ (et_ fun aj ak H => ?_)
  obtain ⟨q, p⟩ : ∃ j_ : Int, (shl .i64 1 m) = j_ := ⟨_, rfl⟩
  first | rw [p] at H | simp only [p] at H
  have A : (IntKind.i64.wrap (1 * 2 ^ min m.toNat 64)) = q := p
  have B : m ≤ 64 → (IntKind.i64.wrap (1 * 2 ^ m.toNat)) = q := shl_small p
  have ac : (IntKind.i64.wrap (2 ^ min m.toNat 64)) = q := by have h_ := A; rw [Int.one_mul] at h_; exact h_
  have ad : m ≤ 64 → (IntKind.i64.wrap (2 ^ m.toNat)) = q := fun hle_ => by have h_ := B hle_; rw [Int.one_mul] at h_; exact h_
  have ae : (wrap64 (1 * 2 ^ min m.toNat 64)) = q := (i64_w _).symm.trans A
  have af : m ≤ 64 → (wrap64 (1 * 2 ^ m.toNat)) = q := fun h_ => (i64_w _).symm.trans (B h_)
  revert H; refine ti_ (df_ fun I H => ?_) (dt_ fun I H => ?_)
  ·obtain rfl := Option.some.inj H
   go_wp2
   go_ret
   exact ⟨by first | rfl | (simp [errW_none, errW_some] <;> rfl) | (simp only [← p]; first | rfl | (simp [errW_none, errW_some] <;> rfl)) | (simp [*, errW_none, errW_some] <;> rfl), at_ HB.out⟩
  revert H; refine bd_ fun al J H => ?_
  try dsimp only at H
  revert H; refine bi_ ?_ ?_ <;> rintro rfl H
  ·have H' := mk_ H
   clear H
   have K : wr.cell? ⟨n, 0, none⟩ = some (.int .i64 d) := (blk_cell a.out 0).trans rfl
   have L : wr.cell? ⟨n, 1, none⟩ = some (.slice g c.length i) := (blk_cell a.out 1).trans rfl
   have M := blk_frozen a.out 0
   have O := blk_frozen a.out 1
   go_wp2_with (first | (refine gc_ 101 (some 15) Tryd.func101 #[.agg #[.int .i64 d, .slice g c.length i], .int .i64 b] ?_; (with_reducible refine mo_ (spec_l4May.calls G d _ _ c b false _ ?side1 ?side2 J.out) ?_); (case side1 => exact Kd.C_below (Kd.C_below x.out HB.out) lt_); (case side2 => exact y.out); intro ao hb; replace a := mk_ (blk_at a.out hb); replace HB := ht_ HB hb; (try clear hb)))
   go_roundg G
   case measure => have := z.out; omega
   case rel => exact ⟨(o), (wrap64 (b + 1)), sm_, sm_, H', ⟨by have := z.out; omega⟩, ⟨by refine bs_ ?_; exact a.out⟩, ⟨at_ HB.out⟩⟩
  revert H; refine g_ (et_ fun am an H => ?_)
  obtain ⟨l, j⟩ : ∃ j_ : Int, (shl .i64 1 b) = j_ := ⟨_, rfl⟩
  first | rw [j] at H | simp only [j] at H
  (try rw [j] at J)
  have s : (IntKind.i64.wrap (1 * 2 ^ min b.toNat 64)) = l := j
  have t : b ≤ 64 → (IntKind.i64.wrap (1 * 2 ^ b.toNat)) = l := shl_small j
  have X : (IntKind.i64.wrap (2 ^ min b.toNat 64)) = l := by have h_ := s; rw [Int.one_mul] at h_; exact h_
  have Y : b ≤ 64 → (IntKind.i64.wrap (2 ^ b.toNat)) = l := fun hle_ => by have h_ := t hle_; rw [Int.one_mul] at h_; exact h_
  have Z : (wrap64 (1 * 2 ^ min b.toNat 64)) = l := (i64_w _).symm.trans s
  have aa : b ≤ 64 → (wrap64 (1 * 2 ^ b.toNat)) = l := fun h_ => (i64_w _).symm.trans (t h_)
  have H' := mk_ H
  clear H
  have P : wr.cell? ⟨n, 0, none⟩ = some (.int .i64 d) := (blk_cell a.out 0).trans rfl
  have T : wr.cell? ⟨n, 1, none⟩ = some (.slice g c.length i) := (blk_cell a.out 1).trans rfl
  have U := blk_frozen a.out 0
  have W := blk_frozen a.out 1
  go_wp2_with (first | (refine gc_ 101 (some 15) Tryd.func101 #[.agg #[.int .i64 d, .slice g c.length i], .int .i64 b] ?_; (with_reducible refine mo_ (spec_l4May.calls G d _ _ c b true _ ?side1 ?side2 J.out) ?_); (case side1 => exact Kd.C_below (Kd.C_below x.out HB.out) lt_); (case side2 => exact y.out); intro ap hb; replace a := mk_ (blk_at a.out hb); replace HB := ht_ HB hb; (try clear hb)))
  go_roundg G
  case measure => have := z.out; omega
  case rel => exact ⟨(Go.bits .or .i64 o (l)), (wrap64 (b + 1)), (by first | rfl | (simp; done) | (simp only [← j] <;> (first | rfl | simp)) | (simp [*]; done)), sm_, H', ⟨by have := z.out; omega⟩, ⟨by refine bs_ ?_; exact a.out⟩, ⟨at_ HB.out⟩⟩
def spec_l11Closes.f (k : Nat) (a0 : Int) (l1 : List (S79)) (l2 : List (S82)) (a3 : Int) (l4 : List Int) : Option (Bool) := (spec_l11Agree.f k a0 l4).bind fun t225 => (if a3 = (-1) then ((spec_l3Table.f k a0 l2).bind fun t226 => (some ((Go.bits .andNot .i64 t225 t226) == 0))) else ((spec_l1In.f (wrap64 ((-2) - a3)) 0 (wrap64 ((l1.length : Int) - 1))).bind fun t227 => (if t227 = true then (if 0 ≤ (wrap64 ((-2) - a3)) then (if (wrap64 ((-2) - a3)) < (l1.length : Int) then ((spec_l4Table.f k a0 ((rd_T79 l1 (wrap64 ((-2) - a3))).f0) ((rd_T79 l1 (wrap64 ((-2) - a3))).f1)).bind fun t229 => (some ((Go.bits .and .i64 t225 t229) == 0))) else (none)) else (none)) else (some false))))
theorem spec_l11Closes.calls (k : Nat) (c : Int) (O : Option Addr) (P : Nat) (l1 : List (S79)) (B : Option Addr) (c2 : Nat) (j : List (S82)) (m : Int) (p : Option Addr) (c4 : Nat) (d : List Int) (r : Bool) (w : World) (u : Kd.C k79 w O l1.length l1) (v : l1.length ≤ P) (x : Kd.C k82 w B j.length j) (y : j.length ≤ c2) (z : Kd.C (Kd.int .i64) w p d.length d) (A : d.length ≤ c4) (h : spec_l11Closes.f k c l1 j m d = some r) :
  Calls Tryd.prog 81 #[.int .i64 c, .slice O l1.length P, .slice B j.length c2, .int .i64 m, .slice p d.length c4] w fun e w' => e = .returned (.bool r) ∧ Below w.heap.size w w' := by
 have ae := Tryd.underlying79
 have T := mk_ u
 have aj := mk_ v
 clear u v
 have U := mk_ x
 have W := mk_ y
 clear x y
 have q := mk_ z
 have s := mk_ A
 clear z A
 have HB := mk_ (Below.refl w.heap.size w)
 unfold spec_l11Closes.f at h
 have H := h
 clear h
 revert H; refine bd_ fun l t H => ?_
 try dsimp only at H
 revert H; refine it_ (qt_ fun D E H => ?_) (qfk_ fun c7 D E H => ?_)
 ·revert H; refine bd_ fun G A8 H => ?_
  try dsimp only at H
  obtain rfl := Option.some.inj H
  go_enter Tryd.func81, Tryd.ntmps81
  go_wp2_with (first | (refine gc_ 91 (some 14) Tryd.func91 #[.int .i64 c, .slice p d.length c4] ?_; (with_reducible refine (spec_l11Agree.calls k c _ _ d l _ ?side1 ?side2 t.out).mono ?_); (case side1 => exact Kd.C_below q.out lt_); (case side2 => exact s.out); rintro e w' ⟨rfl, ⟨nd, rfl⟩⟩; refine ⟨_, rfl, ?_⟩) | (refine gc_ 92 (some 20) Tryd.func92 #[.int .i64 c, .slice B j.length c2] ?_; (with_reducible refine (spec_l3Table.calls k c _ _ j G _ ?side1 ?side2 A8.out).mono ?_); (case side1 => exact Kd.C_below U.out lt_); (case side2 => exact W.out); rintro e w' ⟨rfl, ⟨nd, rfl⟩⟩; refine ⟨_, rfl, ?_⟩))
  go_ret
  exact ⟨er_, below_at HB.out⟩
 revert H; refine bd_ fun ag I H => ?_
 try dsimp only at H
 revert H; refine bi_ ?_ ?_ <;> rintro rfl H
 ·obtain rfl := Option.some.inj H
  go_enter Tryd.func81, Tryd.ntmps81
  go_wp2_with (first | (refine gc_ 91 (some 14) Tryd.func91 #[.int .i64 c, .slice p d.length c4] ?_; (with_reducible refine (spec_l11Agree.calls k c _ _ d l _ ?side1 ?side2 t.out).mono ?_); (case side1 => exact Kd.C_below q.out lt_); (case side2 => exact s.out); rintro e w' ⟨rfl, ⟨nd, rfl⟩⟩; refine ⟨_, rfl, ?_⟩) | (refine gc_ 80 (some 28) Tryd.func80 #[.int .i64 (wrap64 ((-2) - m)), .int .i64 0, .int .i64 (wrap64 ((l1.length : Int) - 1))] ?_; (with_reducible refine (spec_l1In.calls (wrap64 ((-2) - m)) 0 (wrap64 ((l1.length : Int) - 1)) false _ I.out).mono ?_); rintro e w' ⟨rfl, ⟨nd, rfl⟩⟩; refine ⟨_, rfl, ?_⟩))
  go_ret
  exact ⟨er_, below_at HB.out⟩
 obtain ⟨b, a⟩ : ∃ j_ : Int, (wrap64 ((-2) - m)) = j_ := ⟨_, rfl⟩
 first | rw [a] at H | simp only [a] at H
 (try rw [a] at t)
 (try rw [a] at I)
 have X : (IntKind.i64.wrap ((-2) - m)) = b := (i64_w _).trans a
 revert H; refine g_ (dt_ fun ab => g_ (dt_ fun ac => bd_ fun J Y H => ?_))
 try dsimp only at H
 obtain rfl := Option.some.inj H
 go_enter Tryd.func81, Tryd.ntmps81
 go_wp2_with (first | (refine gc_ 91 (some 14) Tryd.func91 #[.int .i64 c, .slice p d.length c4] ?_; (with_reducible refine (spec_l11Agree.calls k c _ _ d l _ ?side1 ?side2 t.out).mono ?_); (case side1 => exact Kd.C_below q.out lt_); (case side2 => exact s.out); rintro e w' ⟨rfl, ⟨nd, rfl⟩⟩; refine ⟨_, rfl, ?_⟩) | ((with_reducible refine gate_callee (f := 80) rfl ?_); refine goesL_ (some 28) rfl rfl Tryd.func80 (by kernel_rfl) rfl #[.int .i64 b, .int .i64 0, .int .i64 (wrap64 ((l1.length : Int) - 1))] rfl (by (try simp only [List.map_toArray, List.map_cons, List.map_nil]); first | done | (simp only [a]; rfl) | rfl | (simp only [List.length_drop, List.length_take]; rfl)) ?_; (with_reducible refine (spec_l1In.calls b 0 (wrap64 ((l1.length : Int) - 1)) true _ I.out).mono ?_); rintro e w' ⟨rfl, ⟨nd, rfl⟩⟩; refine ⟨_, rfl, ?_⟩; obtain ⟨ad, Z, aa, K, L, M, g, i⟩ := at_T79 T.out (b) oa_ oa_; cases K; have n := mk_ i; have o := mk_ g; clear i g; obtain ⟨ah, ai⟩ := pq_ ((b) : Int) (l1.length : Int)) | (go_at_call 93; (with_reducible refine (spec_l4Table.calls k c ((rd_T79 l1 (b)).f0) _ _ ((rd_T79 l1 (b)).f1) J _ ?side1 ?side2 Y.out).mono ?_); (case side1 => exact Kd.C_below n.out lt_); (case side2 => exact o.out); rintro e ak ⟨rfl, hb⟩; replace HB := hs_ HB hb; (try clear hb)))
 go_ret
 exact ⟨by first | rfl | (simp [errW_none, errW_some] <;> rfl) | (simp only [← a]; first | rfl | (simp [errW_none, errW_some] <;> rfl)) | (simp [*, errW_none, errW_some] <;> rfl), below_at HB.out⟩
end Go.Proofs.YtcaogllnbpmcgaaDoor.P

/- Go's functions come to just the answers of the Lean functions told here. -/
import Derived.Test.YtcaogllnbpmcgaaDoorPx17
set_option maxHeartbeats 8000000
set_option maxRecDepth 100000
namespace Go.Proofs.YtcaogllnbpmcgaaDoor.P
open Go.RowKit Go.Proofs.YtcaogllnbpmcgaaDoorW.PrintWords Go.Proofs.YtcaogllnbpmcgaaDoorW.PrintLast Go.Proofs.YtcaogllnbpmcgaaDoorW.PrintMore
attribute [local go_sem] max2_int min2_int max_two min_two max_three min_three max_four min_four
set_option linter.unusedVariables false
set_option linter.unusedSimpArgs false
def spec_StoryOk.l0 : Nat → Int → List (S79) → Int → Option (Bool)
 | 0, _, _, _ => none
 | k + 1, x0, x1, x5 => if x5 < (x1.length : Int) then (if 0 ≤ x5 then ((spec_ClaimOk.f k x0 ((rd_T79 x1 x5).f0) ((rd_T79 x1 x5).f1)).bind fun t193 => (if t193 = true then (spec_StoryOk.l0 k x0 x1 (wrap64 (x5 + 1))) else (some false))) else (none)) else ((spec_l1In.f x0 1 4).bind fun t194 => (if t194 = true then (some (decide ((x1.length : Int) ≤ 6))) else (some false)))
def spec_StoryOk.f (k : Nat) (a0 : Int) (l1 : List (S79)) : Option (Bool) := spec_StoryOk.l0 k a0 l1 0
theorem spec_StoryOk.calls (k : Nat) (l : Int) (B : Option Addr) (v : Nat) (l1 : List (S79)) (r : Bool) (w : World) (q : Kd.C k79 w B l1.length l1) (s : l1.length ≤ v) (h : spec_StoryOk.f k l l1 = some r) :
  Calls Tryd.prog 57 #[.int .i64 l, .slice B l1.length v] w fun e w' => e = .returned (.bool r) ∧ Below w.heap.size w w' := by
 have G := Tryd.underlying79
 have t := mk_ q
 have M := mk_ s
 clear q s
 have HB := mk_ (Below.refl w.heap.size w)
 have H : (spec_StoryOk.l0 k l l1 0) = some r := h
 clear h
 have H' := mk_ H
 clear H
 go_enter Tryd.func57, Tryd.ntmps57
 go_wp2
 go_loopg [5] k (fun kq I w' => ∃ (a : Int), I = .int .i64 a ∧ Aside0 (spec_StoryOk.l0 kq l l1 a = some r) ∧ Aside0 (kq ≤ k) ∧ Aside0 (Below w.heap.size w w'))
 case atStart => exact ⟨(0), sm_, H', ⟨Nat.le_refl _⟩, ⟨below_at HB.out⟩⟩
 clear H'
 try clear v
 obtain ⟨a, rfl, HA, u, HB⟩ := hrel
 cases gk with
 | zero => exact absurd HA.out (by simp [spec_StoryOk.l0])
 | succ x =>
  have H := HA.out
  clear HA
  simp only [spec_StoryOk.l0] at H
  revert H; refine ti_ (df_ fun y H => ?_) (dt_ fun y H => ?_)
  ·revert H; refine bd_ fun J D H => ?_
   try dsimp only at H
   revert H; refine ib_ ?_ ?_ <;> rintro rfl H
   ·obtain rfl := Option.some.inj H
    go_wp2_with (first | (refine gc_ 80 (some 20) Tryd.func80 #[.int .i64 l, .int .i64 1, .int .i64 4] ?_; (with_reducible refine (spec_l1In.calls l 1 4 true _ D.out).mono ?_); rintro e w' ⟨rfl, ⟨nd, rfl⟩⟩; refine ⟨_, rfl, ?_⟩))
    go_ret
    exact ⟨er_, below_at HB.out⟩
   obtain rfl := Option.some.inj H
   go_wp2_with (first | (refine gc_ 80 (some 20) Tryd.func80 #[.int .i64 l, .int .i64 1, .int .i64 4] ?_; (with_reducible refine (spec_l1In.calls l 1 4 false _ D.out).mono ?_); rintro e w' ⟨rfl, ⟨nd, rfl⟩⟩; refine ⟨_, rfl, ?_⟩))
   go_ret
   exact ⟨er_, below_at HB.out⟩
  revert H; refine g_ (dt_ fun K => bd_ fun L E H => ?_)
  try dsimp only at H
  revert H; refine ib_ ?_ ?_ <;> rintro rfl H
  ·have H' := mk_ H
   clear H
   obtain ⟨p, m, n, o, b, c, d, g⟩ := at_T79 t.out a oa_ oa_
   cases o
   replace b := cel HB.out b
   replace c := cel HB.out c
   have i := mk_ g
   have j := mk_ d
   clear g d
   obtain ⟨z, A⟩ := pq_ (a : Int) (l1.length : Int)
   go_wp2_with (first | (refine gc_ 79 (some 17) Tryd.func79 #[.int .i64 l, .agg #[.int .i64 ((rd_T79 l1 a).f0), .slice m ((rd_T79 l1 a).f1).length n]] ?_; (with_reducible refine mo_ (spec_ClaimOk.calls x l ((rd_T79 l1 a).f0) _ _ ((rd_T79 l1 a).f1) true _ ?side1 ?side2 E.out) ?_); (case side1 => exact Kd.C_below (Kd.C_below i.out HB.out) lt_); (case side2 => exact j.out); intro O hb; replace HB := hs_ HB hb; (try clear hb)))
   go_roundg x
   case measure => have := u.out; omega
   case rel => exact ⟨(wrap64 (a + 1)), sm_, H', ⟨by have := u.out; omega⟩, ⟨below_at HB.out⟩⟩
  obtain rfl := Option.some.inj H
  obtain ⟨p, m, n, o, b, c, d, g⟩ := at_T79 t.out a oa_ oa_
  cases o
  replace b := cel HB.out b
  replace c := cel HB.out c
  have i := mk_ g
  have j := mk_ d
  clear g d
  obtain ⟨z, A⟩ := pq_ (a : Int) (l1.length : Int)
  go_wp2_with (first | (refine gc_ 79 (some 17) Tryd.func79 #[.int .i64 l, .agg #[.int .i64 ((rd_T79 l1 a).f0), .slice m ((rd_T79 l1 a).f1).length n]] ?_; (with_reducible refine mo_ (spec_ClaimOk.calls x l ((rd_T79 l1 a).f0) _ _ ((rd_T79 l1 a).f1) false _ ?side1 ?side2 E.out) ?_); (case side1 => exact Kd.C_below (Kd.C_below i.out HB.out) lt_); (case side2 => exact j.out); intro P hb; replace HB := hs_ HB hb; (try clear hb)))
  go_ret
  exact ⟨er_, below_at HB.out⟩
mutual
def spec_l11Agree.l0 : Nat → Int → List Int → Int → Int → Option (Int)
 | 0, _, _, _, _ => none
 | k + 1, x0, x1, x5, x6 => if 0 ≤ x0 then (if x6 < (shl .i64 1 x0) then (spec_l11Agree.l1 k x0 x1 x5 x6 true 0) else (some x5)) else (none)
def spec_l11Agree.l1 : Nat → Int → List Int → Int → Int → Bool → Int → Option (Int)
 | 0, _, _, _, _, _, _ => none
 | k + 1, x0, x1, x5, x6, x7, x8 => if x8 < x0 then (if x7 = true then (if 0 ≤ x8 then (if x8 < (x1.length : Int) then (if (rd x1 x8) < 0 then (spec_l11Agree.l1 k x0 x1 x5 x6 true (wrap64 (x8 + 1))) else (spec_l11Agree.l1 k x0 x1 x5 x6 ((rd x1 x8) == (Int.tmod (shr .i64 x6 x8) 2)) (wrap64 (x8 + 1)))) else (none)) else (none)) else (spec_l11Agree.l1 k x0 x1 x5 x6 false (wrap64 (x8 + 1)))) else (if x7 = true then (if 0 ≤ x6 then (spec_l11Agree.l0 k x0 x1 (Go.bits .or .i64 x5 (shl .i64 1 x6)) (wrap64 (x6 + 1))) else (none)) else (spec_l11Agree.l0 k x0 x1 x5 (wrap64 (x6 + 1))))
end
def spec_l11Agree.f (k : Nat) (a0 : Int) (l1 : List Int) : Option (Int) := spec_l11Agree.l0 k a0 l1 0 0
theorem spec_l11Agree.mono_l : ∀ k, (∀ y0 y1 y2 y3, LeO (spec_l11Agree.l0 k y0 y1 y2 y3) (spec_l11Agree.l0 (k + 1) y0 y1 y2 y3)) ∧ (∀ y0 y1 y2 y3 y4 y5, LeO (spec_l11Agree.l1 k y0 y1 y2 y3 y4 y5) (spec_l11Agree.l1 (k + 1) y0 y1 y2 y3 y4 y5))
 | 0 => ⟨fun _ _ _ _ r h => by simp [spec_l11Agree.l0] at h, fun _ _ _ _ _ _ r h => by simp [spec_l11Agree.l1] at h⟩
 | k + 1 => by
  obtain ⟨ih0, ih1⟩ := spec_l11Agree.mono_l k
  refine ⟨?_, ?_⟩
  ·intro y0 y1 y2 y3
   unfold spec_l11Agree.l0
   repeat' first
   | (with_reducible exact ih0 _ _ _ _)
   | (with_reducible exact ih1 _ _ _ _ _ _)
   | (with_reducible exact LeO.refl _)
   | (with_reducible exact LeO.none _)
   | (with_reducible refine LeO.ite ?_ ?_)
   | (with_reducible refine LeO.bind ?_ (fun _ => ?_))
  ·intro y0 y1 y2 y3 y4 y5
   unfold spec_l11Agree.l1
   repeat' first
   | (with_reducible exact ih0 _ _ _ _)
   | (with_reducible exact ih1 _ _ _ _ _ _)
   | (with_reducible exact LeO.refl _)
   | (with_reducible exact LeO.none _)
   | (with_reducible refine LeO.ite ?_ ?_)
   | (with_reducible refine LeO.bind ?_ (fun _ => ?_))
theorem spec_l11Agree.mono : ∀ a0 a1 k, LeO (spec_l11Agree.f k a0 a1) (spec_l11Agree.f (k + 1) a0 a1) := by
 intro a0 a1 k
 obtain ⟨ih0, ih1⟩ := spec_l11Agree.mono_l k
 unfold spec_l11Agree.f
 repeat' first
   | (with_reducible exact ih0 _ _ _ _)
   | (with_reducible exact ih1 _ _ _ _ _ _)
   | (with_reducible exact LeO.refl _)
   | (with_reducible exact LeO.none _)
   | (with_reducible refine LeO.ite ?_ ?_)
   | (with_reducible refine LeO.bind ?_ (fun _ => ?_))
theorem spec_l11Agree.calls (k : Nat) (g : Int) (X : Option Addr) (E : Nat) (l1 : List Int) (r : Int) (w : World) (J : Kd.C (Kd.int .i64) w X l1.length l1) (K : l1.length ≤ E) (h : spec_l11Agree.f k g l1 = some r) :
  Calls Tryd.prog 91 #[.int .i64 g, .slice X l1.length E] w fun e w' => e = .returned (.int .i64 r) ∧ Drawn0 w w' := by
 have A := mk_ J
 have aw := mk_ K
 clear J K
 have H : (spec_l11Agree.l0 k g l1 0 0) = some r := h
 clear h
 have H' := mk_ H
 clear H
 go_enter Tryd.func91, Tryd.ntmps91
 go_wp2
 repeat (go_quiet (fail); try go_wp2)
 go_loopg [5, 6] k (fun kq v5 v6 w' => ∃ (m : Int) (a : Int), v5 = .int .i64 m ∧ v6 = .int .i64 a ∧ Aside0 (spec_l11Agree.l0 kq g l1 m a = some r) ∧ Aside0 (kq ≤ k) ∧ Drawn0 w w')
 case atStart => exact ⟨(0), (0), sm_, sm_, H', ⟨Nat.le_refl _⟩, by repeat (first | exact Drawn0.refl _ | apply Drawn0.step)⟩
 clear H'
 try clear E
 obtain ⟨m, a, rfl, rfl, HA, c, ⟨m1, rfl⟩⟩ := hrel
 cases gk with
 | zero => exact absurd HA.out (by simp [spec_l11Agree.l0])
 | succ Y =>
  have H := HA.out
  clear HA
  simp only [spec_l11Agree.l0] at H
  revert H; refine g_ (et_ fun L M H => ?_)
  obtain ⟨o, n⟩ : ∃ j_ : Int, (shl .i64 1 g) = j_ := ⟨_, rfl⟩
  first | rw [n] at H | simp only [n] at H
  have v : (IntKind.i64.wrap (1 * 2 ^ min g.toNat 64)) = o := n
  have x : g ≤ 64 → (IntKind.i64.wrap (1 * 2 ^ g.toNat)) = o := shl_small n
  have af : (IntKind.i64.wrap (2 ^ min g.toNat 64)) = o := by have h_ := v; rw [Int.one_mul] at h_; exact h_
  have ag : g ≤ 64 → (IntKind.i64.wrap (2 ^ g.toNat)) = o := fun hle_ => by have h_ := x hle_; rw [Int.one_mul] at h_; exact h_
  have ah : (wrap64 (1 * 2 ^ min g.toNat 64)) = o := (i64_w _).symm.trans v
  have ai : g ≤ 64 → (wrap64 (1 * 2 ^ g.toNat)) = o := fun h_ => (i64_w _).symm.trans (x h_)
  revert H; refine ti_ (df_ fun B H => ?_) (dt_ fun B H => ?_)
  ·obtain rfl := Option.some.inj H
   go_wp2
   repeat (go_quiet (fail); try go_wp2)
   go_ret
   exact ⟨by first | rfl | (simp; done) | (simp only [← n] <;> (first | rfl | simp)) | (simp [*]; done), by repeat (first | exact Drawn0.refl _ | apply Drawn0.step)⟩
  have H' := mk_ H
  clear H
  go_wp2
  repeat (go_quiet (fail); try go_wp2)
  go_loopg [7, 8] Y (fun kq v7 v8 w' => ∃ (s : Bool) (b : Int), v7 = .bool s ∧ v8 = .int .i64 b ∧ Aside0 (spec_l11Agree.l1 kq g l1 m a s b = some r) ∧ Aside0 (kq ≤ Y) ∧ Drawn0 w w')
  case atStart => exact ⟨(true), (0), sm_, sm_, H', ⟨Nat.le_refl _⟩, by repeat (first | exact Drawn0.refl _ | apply Drawn0.step)⟩
  clear H'
  try clear E
  try clear L
  try clear M
  try clear B
  obtain ⟨s, b, rfl, rfl, HA, d, ⟨m2, rfl⟩⟩ := hrel
  cases gk with
  | zero => exact absurd HA.out (by simp [spec_l11Agree.l1])
  | succ D =>
   have H := HA.out
   clear HA
   simp only [spec_l11Agree.l1] at H
   revert H; refine ti_ (df_ fun O H => ?_) (dt_ fun O H => ?_)
   ·revert H; refine bi_ ?_ ?_ <;> rintro rfl H
    ·have H' := mk_ H
     clear H
     go_wp2
     repeat (go_quiet (fail); try go_wp2)
     go_roundg D
     case measure => have := c.out; have := d.out; omega
     case rel => exact ⟨(m), (wrap64 (a + 1)), sm_, sm_, H', ⟨by have := c.out; have := d.out; omega⟩, by repeat (first | exact Drawn0.refl _ | apply Drawn0.step)⟩
    revert H; refine g_ (et_ fun aj ak H => ?_)
    obtain ⟨i, j⟩ : ∃ j_ : Int, (shl .i64 1 a) = j_ := ⟨_, rfl⟩
    first | rw [j] at H | simp only [j] at H
    have p : (IntKind.i64.wrap (1 * 2 ^ min a.toNat 64)) = i := j
    have q : a ≤ 64 → (IntKind.i64.wrap (1 * 2 ^ a.toNat)) = i := shl_small j
    have Z : (IntKind.i64.wrap (2 ^ min a.toNat 64)) = i := by have h_ := p; rw [Int.one_mul] at h_; exact h_
    have aa : a ≤ 64 → (IntKind.i64.wrap (2 ^ a.toNat)) = i := fun hle_ => by have h_ := q hle_; rw [Int.one_mul] at h_; exact h_
    have ab : (wrap64 (1 * 2 ^ min a.toNat 64)) = i := (i64_w _).symm.trans p
    have ac : a ≤ 64 → (wrap64 (1 * 2 ^ a.toNat)) = i := fun h_ => (i64_w _).symm.trans (q h_)
    have H' := mk_ H
    clear H
    go_wp2
    repeat (go_quiet (fail); try go_wp2)
    go_roundg D
    case measure => have := c.out; have := d.out; omega
    case rel => exact ⟨(Go.bits .or .i64 m (i)), (wrap64 (a + 1)), (by first | rfl | (simp; done) | (simp only [← j] <;> (first | rfl | simp)) | (simp [*]; done)), sm_, H', ⟨by have := c.out; have := d.out; omega⟩, by repeat (first | exact Drawn0.refl _ | apply Drawn0.step)⟩
   revert H; refine bi_ ?_ ?_ <;> rintro rfl H
   ·have H' := mk_ H
    clear H
    go_wp2
    repeat (go_quiet (fail); try go_wp2)
    go_roundg D
    case measure => have := c.out; have := d.out; omega
    case rel => exact ⟨(false), (wrap64 (b + 1)), sm_, sm_, H', ⟨by have := c.out; have := d.out; omega⟩, by repeat (first | exact Drawn0.refl _ | apply Drawn0.step)⟩
   revert H; refine g_ (dt_ fun aq => g_ (dt_ fun ar => it_ (dt_ fun G H => ?_) (df_ fun G H => ?_)))
   ·have H' := mk_ H
    clear H
    obtain ⟨y, t, z⟩ := Kd.at_int A.out b oa_ oa_
    cases t
    obtain ⟨P, T⟩ := pq_ (b : Int) (l1.length : Int)
    go_wp2
    repeat (go_quiet (fail); try go_wp2)
    go_roundg D
    case measure => have := c.out; have := d.out; omega
    case rel => exact ⟨(true), (wrap64 (b + 1)), sm_, sm_, H', ⟨by have := c.out; have := d.out; omega⟩, by repeat (first | exact Drawn0.refl _ | apply Drawn0.step)⟩
   have al := eq_true (oa_ : 0 ≤ b)
   obtain ⟨u, l⟩ : ∃ j_ : Int, (shr .i64 a b) = j_ := ⟨_, rfl⟩
   first | rw [l] at H | simp only [l] at H
   have ad : (a / 2 ^ min b.toNat 64) = u := l
   have ae : b ≤ 64 → (a / 2 ^ b.toNat) = u := shr_small l
   have H' := mk_ H
   clear H
   obtain ⟨y, t, z⟩ := Kd.at_int A.out b oa_ oa_
   cases t
   obtain ⟨P, T⟩ := pq_ (b : Int) (l1.length : Int)
   obtain ⟨I, U, W⟩ := Kd.at_int A.out b oa_ oa_
   obtain rfl : y = I := (by injection U)
   obtain ⟨au, av⟩ := pq_ (b : Int) (l1.length : Int)
   go_wp2
   repeat (go_quiet (fail); try go_wp2)
   go_roundg D
   case measure => have := c.out; have := d.out; omega
   case rel => exact ⟨(((rd l1 b) == (Int.tmod (u) 2))), (wrap64 (b + 1)), (by first | rfl | (simp; done) | (simp only [← l] <;> (first | rfl | simp)) | (simp [*]; done)), sm_, H', ⟨by have := c.out; have := d.out; omega⟩, by repeat (first | exact Drawn0.refl _ | apply Drawn0.step)⟩
def spec_l1Heads.l0 : Nat → Int → Int → Option (Int)
 | 0, _, _ => none
 | k + 1, x0, x3 => if x0 > 0 then (spec_l1Heads.l0 k (wrap64 (Int.tdiv x0 2)) (wrap64 (x3 + (Int.tmod x0 2)))) else (some x3)
def spec_l1Heads.f (k : Nat) (a0 : Int) : Option (Int) := spec_l1Heads.l0 k a0 0
theorem spec_l1Heads.mono_l : ∀ k, (∀ y0 y1, LeO (spec_l1Heads.l0 k y0 y1) (spec_l1Heads.l0 (k + 1) y0 y1))
 | 0 => fun _ _ r h => by simp [spec_l1Heads.l0] at h
 | k + 1 => by
  have ih0 := spec_l1Heads.mono_l k
  ·intro y0 y1
   unfold spec_l1Heads.l0
   repeat' first
   | (with_reducible exact ih0 _ _)
   | (with_reducible exact LeO.refl _)
   | (with_reducible exact LeO.none _)
   | (with_reducible refine LeO.ite ?_ ?_)
   | (with_reducible refine LeO.bind ?_ (fun _ => ?_))
theorem spec_l1Heads.mono : ∀ a0 k, LeO (spec_l1Heads.f k a0) (spec_l1Heads.f (k + 1) a0) := by
 intro a0 k
 have ih0 := spec_l1Heads.mono_l k
 unfold spec_l1Heads.f
 repeat' first
   | (with_reducible exact ih0 _ _)
   | (with_reducible exact LeO.refl _)
   | (with_reducible exact LeO.none _)
   | (with_reducible refine LeO.ite ?_ ?_)
   | (with_reducible refine LeO.bind ?_ (fun _ => ?_))
theorem spec_l1Heads.calls (k : Nat) (c : Int) (r : Int) (w : World) (h : spec_l1Heads.f k c = some r) :
  Calls Tryd.prog 109 #[.int .i64 c] w fun e w' => e = .returned (.int .i64 r) ∧ Drawn0 w w' := by
 have H : (spec_l1Heads.l0 k c 0) = some r := h
 clear h
 have H' := mk_ H
 clear H
 go_enter Tryd.func109, Tryd.ntmps109
 go_wp2
 go_loopg [0, 3] k (fun kq i j w' => ∃ (a : Int) (b : Int), i = .int .i64 a ∧ j = .int .i64 b ∧ Aside0 (spec_l1Heads.l0 kq a b = some r) ∧ Aside0 (kq ≤ k) ∧ Drawn0 w w')
 case atStart => exact ⟨(c), (0), sm_, sm_, H', ⟨Nat.le_refl _⟩, by repeat (first | exact Drawn0.refl _ | apply Drawn0.step)⟩
 clear H'
 obtain ⟨a, b, rfl, rfl, HA, d, ⟨m, rfl⟩⟩ := hrel
 cases gk with
 | zero => exact absurd HA.out (by simp [spec_l1Heads.l0])
 | succ l =>
  have H := HA.out
  clear HA
  simp only [spec_l1Heads.l0] at H
  revert H; refine ti_ (df_g fun g H => ?_) (dt_g fun g H => ?_)
  ·obtain rfl := Option.some.inj H
   go_wp2
   go_ret
   exact ⟨sm_, by repeat (first | exact Drawn0.refl _ | apply Drawn0.step)⟩
  have H' := mk_ H
  clear H
  go_wp2
  go_roundg l
  case measure => have := d.out; omega
  case rel => exact ⟨(wrap64 (Int.tdiv a 2)), (wrap64 (b + (Int.tmod a 2))), sm_, sm_, H', ⟨by have := d.out; omega⟩, by repeat (first | exact Drawn0.refl _ | apply Drawn0.step)⟩
def spec_l2Starts.l0 : Nat → List (S82) → Int → Int → Option (Int)
 | 0, _, _, _ => none
 | k + 1, x0, x5, x6 => if x5 > 0 then (if 0 ≤ x6 then (if x6 < (x0.length : Int) then (if ((rd_T82 x0 x6).f0) ≤ 1 then (spec_l2Starts.l0 k x0 (wrap64 (x5 - 1)) (wrap64 (x6 - 1))) else (if ((rd_T82 x0 x6).f0) > 2 then (spec_l2Starts.l0 k x0 (wrap64 (x5 + 1)) (wrap64 (x6 - 1))) else (spec_l2Starts.l0 k x0 x5 (wrap64 (x6 - 1))))) else (none)) else (none)) else (some (wrap64 (x6 + 1)))
def spec_l2Starts.f (k : Nat) (l0 : List (S82)) (a1 : Int) : Option (Int) := spec_l2Starts.l0 k l0 1 a1
theorem spec_l2Starts.calls (k : Nat) (D : Option Addr) (E : Nat) (l0 : List (S82)) (t : Int) (r : Int) (w : World) (u : Kd.C k82 w D l0.length l0) (v : l0.length ≤ E) (h : spec_l2Starts.f k l0 t = some r) :
  Calls Tryd.prog 110 #[.slice D l0.length E, .int .i64 t] w fun e w' => e = .returned (.int .i64 r) ∧ Drawn0 w w' := by
 have m := mk_ u
 have L := mk_ v
 clear u v
 have H : (spec_l2Starts.l0 k l0 1 t) = some r := h
 clear h
 have H' := mk_ H
 clear H
 go_enter Tryd.func110, Tryd.ntmps110
 go_wp2
 go_loopg [5, 6] k (fun kq G I w' => ∃ (b : Int) (a : Int), G = .int .i64 b ∧ I = .int .i64 a ∧ Aside0 (spec_l2Starts.l0 kq l0 b a = some r) ∧ Aside0 (kq ≤ k) ∧ Drawn0 w w')
 case atStart => exact ⟨(1), (t), sm_, sm_, H', ⟨Nat.le_refl _⟩, by repeat (first | exact Drawn0.refl _ | apply Drawn0.step)⟩
 clear H'
 obtain ⟨b, a, rfl, rfl, HA, g, ⟨M, rfl⟩⟩ := hrel
 cases gk with
 | zero => exact absurd HA.out (by simp [spec_l2Starts.l0])
 | succ x =>
  have H := HA.out
  clear HA
  simp only [spec_l2Starts.l0] at H
  revert H; refine ti_ (df_g fun y H => ?_) (dt_g fun y H => ?_)
  ·obtain rfl := Option.some.inj H
   go_wp2
   go_ret
   exact ⟨sm_, by repeat (first | exact Drawn0.refl _ | apply Drawn0.step)⟩
  revert H; refine g_ (dt_ fun J => g_ (dt_ fun K => it_ (dt_ fun z H => ?_) (df_ fun z H => ?_)))
  ·have H' := mk_ H
   clear H
   obtain ⟨c, d, i, j⟩ := at_T82 m.out a oa_ oa_
   cases d
   obtain ⟨q, s⟩ := pq_ (a : Int) (l0.length : Int)
   go_wp2
   go_roundg x
   case measure => have := g.out; omega
   case rel => exact ⟨(wrap64 (b - 1)), (wrap64 (a - 1)), sm_, sm_, H', ⟨by have := g.out; omega⟩, by repeat (first | exact Drawn0.refl _ | apply Drawn0.step)⟩
  revert H; refine it_ (dt_ fun (c7b0 : decide (2 < ((rd_T82 l0 a).f0)) = true) H => ?_) (df_ fun (c7b0 : decide (2 < ((rd_T82 l0 a).f0)) = false) H => ?_)
  ·have H' := mk_ H
   clear H
   obtain ⟨c, d, i, j⟩ := at_T82 m.out a oa_ oa_
   cases d
   obtain ⟨q, s⟩ := pq_ (a : Int) (l0.length : Int)
   obtain ⟨l, n, o, p⟩ := at_T82 m.out a oa_ oa_
   obtain rfl : c = l := (by injection n)
   obtain ⟨A, B⟩ := pq_ (a : Int) (l0.length : Int)
   go_wp2
   go_roundg x
   case measure => have := g.out; omega
   case rel => exact ⟨(wrap64 (b + 1)), (wrap64 (a - 1)), sm_, sm_, H', ⟨by have := g.out; omega⟩, by repeat (first | exact Drawn0.refl _ | apply Drawn0.step)⟩
  have H' := mk_ H
  clear H
  obtain ⟨c, d, i, j⟩ := at_T82 m.out a oa_ oa_
  cases d
  obtain ⟨q, s⟩ := pq_ (a : Int) (l0.length : Int)
  obtain ⟨l, n, o, p⟩ := at_T82 m.out a oa_ oa_
  obtain rfl : c = l := (by injection n)
  obtain ⟨A, B⟩ := pq_ (a : Int) (l0.length : Int)
  go_wp2
  go_roundg x
  case measure => have := g.out; omega
  case rel => exact ⟨(b), (wrap64 (a - 1)), sm_, sm_, H', ⟨by have := g.out; omega⟩, by repeat (first | exact Drawn0.refl _ | apply Drawn0.step)⟩
end Go.Proofs.YtcaogllnbpmcgaaDoor.P

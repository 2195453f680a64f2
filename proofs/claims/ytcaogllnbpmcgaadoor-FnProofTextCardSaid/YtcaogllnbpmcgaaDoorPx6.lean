/- Go's functions come to just the answers of the Lean functions told here. -/
import Derived.Test.YtcaogllnbpmcgaaDoorPx5
namespace Go.Proofs.YtcaogllnbpmcgaaDoor.P
open Go.RowKit Go.Proofs.YtcaogllnbpmcgaaDoorW.PrintWords Go.Proofs.YtcaogllnbpmcgaaDoorW.PrintLast Go.Proofs.YtcaogllnbpmcgaaDoorW.PrintMore
attribute [local go_sem] max2_int min2_int max_two min_two max_three min_three max_four min_four
set_option linter.unusedVariables false
set_option linter.unusedSimpArgs false
def spec_StoryOk.l0 : Nat → Int → List (S79) → Int → Option (Bool)
 | 0, _, _, _ => none
 | k + 1, x0, x1, x5 => if x5 < (x1.length : Int) then (if 0 ≤ x5 then ((spec_ClaimOk.f k x0 ((rd_T79 x1 x5).f0) ((rd_T79 x1 x5).f1)).bind fun t169 => (if t169 = true then (spec_StoryOk.l0 k x0 x1 (wrap64 (x5 + 1))) else (some false))) else (none)) else ((spec_l1In.f x0 1 4).bind fun t170 => (if t170 = true then (some (decide ((x1.length : Int) ≤ 6))) else (some false)))
def spec_StoryOk.f (k : Nat) (a0 : Int) (l1 : List (S79)) : Option (Bool) := spec_StoryOk.l0 k a0 l1 0
set_option maxHeartbeats 8000000 in
set_option maxRecDepth 100000 in
theorem spec_StoryOk.calls (k : Nat) (a0 : Int) (A1 : Option Addr) (c1 : Nat) (l1 : List (S79)) (r : Bool) (w : World) (hr1 : Kd.C k79 w A1 l1.length l1) (hc1 : l1.length ≤ c1) (h : spec_StoryOk.f k a0 l1 = some r) :
  Calls Tryd.prog 57 #[.int .i64 a0, .slice A1 l1.length c1] w fun e w' => e = .returned (.bool r) ∧ Below w.heap.size w w' := by
 have hu79 := Tryd.underlying79
 have HR1 := mk_ hr1
 have HC1 := mk_ hc1
 clear hr1 hc1
 have HB := mk_ (Below.refl w.heap.size w)
 have H : (spec_StoryOk.l0 k a0 l1 0) = some r := h
 clear h
 have H' := mk_ H
 clear H
 go_enter Tryd.func57, Tryd.ntmps57
 go_wp2
 go_loopg [5] k (fun kq v5 w' => ∃ (x5_1 : Int), v5 = .int .i64 x5_1 ∧ Aside0 (spec_StoryOk.l0 kq a0 l1 x5_1 = some r) ∧ Aside0 (kq ≤ k) ∧ Aside0 (Below w.heap.size w w'))
 case atStart => exact ⟨(0), sm_, H', ⟨Nat.le_refl _⟩, ⟨below_at HB.out⟩⟩
 clear H'
 try clear c1
 try clear p2
 obtain ⟨x5_1, rfl, HA, HK1, HB⟩ := hrel
 cases gk with
 | zero => exact absurd HA.out (by simp [spec_StoryOk.l0])
 | succ k1 =>
  have H := HA.out
  clear HA
  simp only [spec_StoryOk.l0] at H
  revert H; refine ti_ (df_ fun c3b0 H => ?_) (dt_ fun c3b0 H => ?_)
  ·revert H; refine bd_ fun t170 A9 H => ?_
   try dsimp only at H
   revert H; refine ib_ ?_ ?_ <;> rintro rfl H
   ·obtain rfl := Option.some.inj H
    go_wp2_with (first | (refine gc_ 80 (some 20) Tryd.func80 #[.int .i64 a0, .int .i64 1, .int .i64 4] ?_; (with_reducible refine (spec_l1In.calls a0 1 4 true _ A9.out).mono ?_); rintro e w' ⟨rfl, ⟨nd, rfl⟩⟩; refine ⟨_, rfl, ?_⟩))
    go_ret
    exact ⟨er_, below_at HB.out⟩
   obtain rfl := Option.some.inj H
   go_wp2_with (first | (refine gc_ 80 (some 20) Tryd.func80 #[.int .i64 a0, .int .i64 1, .int .i64 4] ?_; (with_reducible refine (spec_l1In.calls a0 1 4 false _ A9.out).mono ?_); rintro e w' ⟨rfl, ⟨nd, rfl⟩⟩; refine ⟨_, rfl, ?_⟩))
   go_ret
   exact ⟨er_, below_at HB.out⟩
  revert H; refine g_ (dt_ fun c4b0 => bd_ fun t169 A5 H => ?_)
  try dsimp only at H
  revert H; refine ib_ ?_ ?_ <;> rintro rfl H
  ·have H' := mk_ H
   clear H
   have p168 : 0 ≤ (x5_1 : Int) := oa_
   have q168 : x5_1 < (l1.length : Int) := oa_
   obtain ⟨ad168, A168_1, c168_1, e168, hx168_0, hx168_1, hl168_1, hi168_1⟩ := at_T79 HR1.out x5_1 p168 q168
   cases e168
   replace hx168_0 := cel HB.out hx168_0
   replace hx168_1 := cel HB.out hx168_1
   have HR168_1 := mk_ hi168_1
   have HC168_1 := mk_ hl168_1
   clear hi168_1 hl168_1
   replace p168 := eq_true p168
   replace q168 := eq_true q168
   go_wp2_with (first | (refine gc_ 79 (some 17) Tryd.func79 #[.int .i64 a0, .agg #[.int .i64 ((rd_T79 l1 x5_1).f0), .slice A168_1 ((rd_T79 l1 x5_1).f1).length c168_1]] ?_; (with_reducible refine (spec_ClaimOk.calls k1 a0 ((rd_T79 l1 x5_1).f0) _ _ ((rd_T79 l1 x5_1).f1) true _ ?side1 ?side2 A5.out).mono ?_); (case side1 => exact Kd.C_below (Kd.C_below HR168_1.out HB.out) lt_); (case side2 => exact HC168_1.out); rintro e w7 ⟨rfl, hb⟩; refine ⟨_, rfl, ?_⟩; replace HB := mk_ (below_step (below_at HB.out) hb); (try clear hb)))
   go_roundg k1
   case measure => have := HK1.out; omega
   case rel => exact ⟨(wrap64 (x5_1 + 1)), sm_, H', ⟨by have := HK1.out; omega⟩, ⟨below_at HB.out⟩⟩
  obtain rfl := Option.some.inj H
  have p168 : 0 ≤ (x5_1 : Int) := oa_
  have q168 : x5_1 < (l1.length : Int) := oa_
  obtain ⟨ad168, A168_1, c168_1, e168, hx168_0, hx168_1, hl168_1, hi168_1⟩ := at_T79 HR1.out x5_1 p168 q168
  cases e168
  replace hx168_0 := cel HB.out hx168_0
  replace hx168_1 := cel HB.out hx168_1
  have HR168_1 := mk_ hi168_1
  have HC168_1 := mk_ hl168_1
  clear hi168_1 hl168_1
  replace p168 := eq_true p168
  replace q168 := eq_true q168
  go_wp2_with (first | (refine gc_ 79 (some 17) Tryd.func79 #[.int .i64 a0, .agg #[.int .i64 ((rd_T79 l1 x5_1).f0), .slice A168_1 ((rd_T79 l1 x5_1).f1).length c168_1]] ?_; (with_reducible refine (spec_ClaimOk.calls k1 a0 ((rd_T79 l1 x5_1).f0) _ _ ((rd_T79 l1 x5_1).f1) false _ ?side1 ?side2 A5.out).mono ?_); (case side1 => exact Kd.C_below (Kd.C_below HR168_1.out HB.out) lt_); (case side2 => exact HC168_1.out); rintro e w8 ⟨rfl, hb⟩; refine ⟨_, rfl, ?_⟩; replace HB := mk_ (below_step (below_at HB.out) hb); (try clear hb)))
  go_ret
  exact ⟨er_, below_at HB.out⟩
def spec_l1Heads.l0 : Nat → Int → Int → Option (Int)
 | 0, _, _ => none
 | k + 1, x0, x3 => if x0 > 0 then (spec_l1Heads.l0 k (wrap64 (Int.tdiv x0 2)) (wrap64 (x3 + (Int.tmod x0 2)))) else (some x3)
def spec_l1Heads.f (k : Nat) (a0 : Int) : Option (Int) := spec_l1Heads.l0 k a0 0
theorem spec_l1Heads.mono_l : ∀ k, (∀ y0 y1, LeO (spec_l1Heads.l0 k y0 y1) (spec_l1Heads.l0 (k + 1) y0 y1))
 | 0 => fun _ _ r h => by simp [spec_l1Heads.l0] at h
 | k + 1 => by
  have ih0 := spec_l1Heads.mono_l k
  ·intro y0 y1
   unfold spec_l1Heads.l0
   repeat' first
   | (with_reducible exact ih0 _ _)
   | (with_reducible exact LeO.refl _)
   | (with_reducible exact LeO.none _)
   | (with_reducible refine LeO.ite ?_ ?_)
   | (with_reducible refine LeO.bind ?_ (fun _ => ?_))
theorem spec_l1Heads.mono : ∀ a0 k, LeO (spec_l1Heads.f k a0) (spec_l1Heads.f (k + 1) a0) := by
 intro a0 k
 have ih0 := spec_l1Heads.mono_l k
 unfold spec_l1Heads.f
 repeat' first
   | (with_reducible exact ih0 _ _)
   | (with_reducible exact LeO.refl _)
   | (with_reducible exact LeO.none _)
   | (with_reducible refine LeO.ite ?_ ?_)
   | (with_reducible refine LeO.bind ?_ (fun _ => ?_))
set_option maxHeartbeats 8000000 in
set_option maxRecDepth 100000 in
theorem spec_l1Heads.calls (k : Nat) (a0 : Int) (r : Int) (w : World) (h : spec_l1Heads.f k a0 = some r) :
  Calls Tryd.prog 109 #[.int .i64 a0] w fun e w' => e = .returned (.int .i64 r) ∧ Drawn0 w w' := by
 have H : (spec_l1Heads.l0 k a0 0) = some r := h
 clear h
 have H' := mk_ H
 clear H
 go_enter Tryd.func109, Tryd.ntmps109
 go_wp2
 go_loopg [0, 3] k (fun kq v0 v3 w' => ∃ (x0_1 : Int) (x3_1 : Int), v0 = .int .i64 x0_1 ∧ v3 = .int .i64 x3_1 ∧ Aside0 (spec_l1Heads.l0 kq x0_1 x3_1 = some r) ∧ Aside0 (kq ≤ k) ∧ Drawn0 w w')
 case atStart => exact ⟨(a0), (0), sm_, sm_, H', ⟨Nat.le_refl _⟩, by repeat (first | exact Drawn0.refl _ | apply Drawn0.step)⟩
 clear H'
 try clear c1
 obtain ⟨x0_1, x3_1, rfl, rfl, HA, HK1, ⟨m1, rfl⟩⟩ := hrel
 cases gk with
 | zero => exact absurd HA.out (by simp [spec_l1Heads.l0])
 | succ k1 =>
  have H := HA.out
  clear HA
  simp only [spec_l1Heads.l0] at H
  revert H; refine ti_ (df_g fun c2b0 H => ?_) (dt_g fun c2b0 H => ?_)
  ·obtain rfl := Option.some.inj H
   go_wp2
   go_ret
   exact ⟨sm_, by repeat (first | exact Drawn0.refl _ | apply Drawn0.step)⟩
  have H' := mk_ H
  clear H
  go_wp2
  go_roundg k1
  case measure => have := HK1.out; omega
  case rel => exact ⟨(wrap64 (Int.tdiv x0_1 2)), (wrap64 (x3_1 + (Int.tmod x0_1 2))), sm_, sm_, H', ⟨by have := HK1.out; omega⟩, by repeat (first | exact Drawn0.refl _ | apply Drawn0.step)⟩
def spec_l2Starts.l0 : Nat → List (S82) → Int → Int → Option (Int)
 | 0, _, _, _ => none
 | k + 1, x0, x5, x6 => if x5 > 0 then (if 0 ≤ x6 then (if x6 < (x0.length : Int) then (if ((rd_T82 x0 x6).f0) ≤ 1 then (spec_l2Starts.l0 k x0 (wrap64 (x5 - 1)) (wrap64 (x6 - 1))) else (if ((rd_T82 x0 x6).f0) > 2 then (spec_l2Starts.l0 k x0 (wrap64 (x5 + 1)) (wrap64 (x6 - 1))) else (spec_l2Starts.l0 k x0 x5 (wrap64 (x6 - 1))))) else (none)) else (none)) else (some (wrap64 (x6 + 1)))
def spec_l2Starts.f (k : Nat) (l0 : List (S82)) (a1 : Int) : Option (Int) := spec_l2Starts.l0 k l0 1 a1
set_option maxHeartbeats 8000000 in
set_option maxRecDepth 100000 in
theorem spec_l2Starts.calls (k : Nat) (A0 : Option Addr) (c0 : Nat) (l0 : List (S82)) (a1 : Int) (r : Int) (w : World) (hr0 : Kd.C k82 w A0 l0.length l0) (hc0 : l0.length ≤ c0) (h : spec_l2Starts.f k l0 a1 = some r) :
  Calls Tryd.prog 110 #[.slice A0 l0.length c0, .int .i64 a1] w fun e w' => e = .returned (.int .i64 r) ∧ Drawn0 w w' := by
 have HR0 := mk_ hr0
 have HC0 := mk_ hc0
 clear hr0 hc0
 have H : (spec_l2Starts.l0 k l0 1 a1) = some r := h
 clear h
 have H' := mk_ H
 clear H
 go_enter Tryd.func110, Tryd.ntmps110
 go_wp2
 go_loopg [5, 6] k (fun kq v5 v6 w' => ∃ (x5_1 : Int) (x6_1 : Int), v5 = .int .i64 x5_1 ∧ v6 = .int .i64 x6_1 ∧ Aside0 (spec_l2Starts.l0 kq l0 x5_1 x6_1 = some r) ∧ Aside0 (kq ≤ k) ∧ Drawn0 w w')
 case atStart => exact ⟨(1), (a1), sm_, sm_, H', ⟨Nat.le_refl _⟩, by repeat (first | exact Drawn0.refl _ | apply Drawn0.step)⟩
 clear H'
 try clear c1
 try clear p2
 obtain ⟨x5_1, x6_1, rfl, rfl, HA, HK1, ⟨m1, rfl⟩⟩ := hrel
 cases gk with
 | zero => exact absurd HA.out (by simp [spec_l2Starts.l0])
 | succ k1 =>
  have H := HA.out
  clear HA
  simp only [spec_l2Starts.l0] at H
  revert H; refine ti_ (df_g fun c3b0 H => ?_) (dt_g fun c3b0 H => ?_)
  ·obtain rfl := Option.some.inj H
   go_wp2
   go_ret
   exact ⟨sm_, by repeat (first | exact Drawn0.refl _ | apply Drawn0.step)⟩
  revert H; refine g_ (dt_ fun c4b0 => g_ (dt_ fun c5b0 => it_ (dt_ fun c6b0 H => ?_) (df_ fun c6b0 H => ?_)))
  ·have H' := mk_ H
   clear H
   have p171 : 0 ≤ (x6_1 : Int) := oa_
   have q171 : x6_1 < (l0.length : Int) := oa_
   obtain ⟨ad171, e171, hx171_0, hx171_1⟩ := at_T82 HR0.out x6_1 p171 q171
   cases e171
   replace p171 := eq_true p171
   replace q171 := eq_true q171
   go_wp2
   go_roundg k1
   case measure => have := HK1.out; omega
   case rel => exact ⟨(wrap64 (x5_1 - 1)), (wrap64 (x6_1 - 1)), sm_, sm_, H', ⟨by have := HK1.out; omega⟩, by repeat (first | exact Drawn0.refl _ | apply Drawn0.step)⟩
  revert H; refine it_ (dt_ fun (c7b0 : decide (2 < ((rd_T82 l0 x6_1).f0)) = true) H => ?_) (df_ fun (c7b0 : decide (2 < ((rd_T82 l0 x6_1).f0)) = false) H => ?_)
  ·have H' := mk_ H
   clear H
   have p171 : 0 ≤ (x6_1 : Int) := oa_
   have q171 : x6_1 < (l0.length : Int) := oa_
   obtain ⟨ad171, e171, hx171_0, hx171_1⟩ := at_T82 HR0.out x6_1 p171 q171
   cases e171
   replace p171 := eq_true p171
   replace q171 := eq_true q171
   have p172 : 0 ≤ (x6_1 : Int) := oa_
   have q172 : x6_1 < (l0.length : Int) := oa_
   obtain ⟨ad172, e172, hx172_0, hx172_1⟩ := at_T82 HR0.out x6_1 p172 q172
   obtain rfl : ad171 = ad172 := (by injection e172)
   replace p172 := eq_true p172
   replace q172 := eq_true q172
   go_wp2
   go_roundg k1
   case measure => have := HK1.out; omega
   case rel => exact ⟨(wrap64 (x5_1 + 1)), (wrap64 (x6_1 - 1)), sm_, sm_, H', ⟨by have := HK1.out; omega⟩, by repeat (first | exact Drawn0.refl _ | apply Drawn0.step)⟩
  have H' := mk_ H
  clear H
  have p171 : 0 ≤ (x6_1 : Int) := oa_
  have q171 : x6_1 < (l0.length : Int) := oa_
  obtain ⟨ad171, e171, hx171_0, hx171_1⟩ := at_T82 HR0.out x6_1 p171 q171
  cases e171
  replace p171 := eq_true p171
  replace q171 := eq_true q171
  have p172 : 0 ≤ (x6_1 : Int) := oa_
  have q172 : x6_1 < (l0.length : Int) := oa_
  obtain ⟨ad172, e172, hx172_0, hx172_1⟩ := at_T82 HR0.out x6_1 p172 q172
  obtain rfl : ad171 = ad172 := (by injection e172)
  replace p172 := eq_true p172
  replace q172 := eq_true q172
  go_wp2
  go_roundg k1
  case measure => have := HK1.out; omega
  case rel => exact ⟨(x5_1), (wrap64 (x6_1 - 1)), sm_, sm_, H', ⟨by have := HK1.out; omega⟩, by repeat (first | exact Drawn0.refl _ | apply Drawn0.step)⟩
def spec_l3Holds.f : Nat → List (S82) → Int → Option (Bool)
 | 0, _, _ => none
 | k + 1, l0, a1 => if 0 ≤ (wrap64 ((l0.length : Int) - 1)) then (if (wrap64 ((l0.length : Int) - 1)) < (l0.length : Int) then (if ((rd_T82 l0 (wrap64 ((l0.length : Int) - 1))).f0) = 0 then (if 0 ≤ ((rd_T82 l0 (wrap64 ((l0.length : Int) - 1))).f1) then (some ((Int.tmod (shr .i64 a1 ((rd_T82 l0 (wrap64 ((l0.length : Int) - 1))).f1)) 2) == 1)) else (none)) else (if ((rd_T82 l0 (wrap64 ((l0.length : Int) - 1))).f0) = 1 then ((spec_l1Heads.f k a1).bind fun t175 => (some (decide (t175 ≥ ((rd_T82 l0 (wrap64 ((l0.length : Int) - 1))).f1))))) else (if ((rd_T82 l0 (wrap64 ((l0.length : Int) - 1))).f0) = 2 then (if (wrap64 ((l0.length : Int) - 1)) ≤ (l0.length : Int) then ((spec_l3Holds.f k (l0.take ((wrap64 ((l0.length : Int) - 1)) : Int).toNat) a1).bind fun t181 => (some (!t181))) else (none)) else ((spec_l2Starts.f k l0 (wrap64 ((wrap64 ((l0.length : Int) - 1)) - 1))).bind fun t182 => (if 0 ≤ t182 then (if t182 ≤ (l0.length : Int) then ((spec_l3Holds.f k (l0.take (t182 : Int).toNat) a1).bind fun t187 => (if t182 ≤ (wrap64 ((l0.length : Int) - 1)) then (if (wrap64 ((l0.length : Int) - 1)) ≤ (l0.length : Int) then ((spec_l3Holds.f k ((l0.take ((wrap64 ((l0.length : Int) - 1)) : Int).toNat).drop (t182 : Int).toNat) a1).bind fun t192 => (if ((rd_T82 l0 (wrap64 ((l0.length : Int) - 1))).f0) = 3 then (if t187 = true then (some t192) else (some false)) else (if ((rd_T82 l0 (wrap64 ((l0.length : Int) - 1))).f0) = 4 then (if t187 = true then (some true) else (some t192)) else (some (t187 == t192))))) else (none)) else (none))) else (none)) else (none)))))) else (none)) else (none)
set_option maxHeartbeats 8000000 in
set_option maxRecDepth 100000 in
theorem spec_l3Holds.calls (k : Nat) : ∀ (A0 : Option Addr) (c0 : Nat) (l0 : List (S82)) (a1 : Int) (r : Bool) (w : World) (hr0 : Kd.C k82 w A0 l0.length l0) (hc0 : l0.length ≤ c0) (h : spec_l3Holds.f k l0 a1 = some r),
  Calls Tryd.prog 100 #[.slice A0 l0.length c0, .int .i64 a1] w fun e w' => e = .returned (.bool r) ∧ Drawn0 w w' := by
 induction k using Nat.strongRecOn with
 | _ k ih =>
 intro A0 c0 l0 a1 r w hr0 hc0 h
 cases k with
 | zero => exact absurd h (by simp [spec_l3Holds.f])
 | succ k =>
 simp only [spec_l3Holds.f] at h
 have HR0 := mk_ hr0
 have HC0 := mk_ hc0
 clear hr0 hc0
 have H : (if 0 ≤ (wrap64 ((l0.length : Int) - 1)) then (if (wrap64 ((l0.length : Int) - 1)) < (l0.length : Int) then (if ((rd_T82 l0 (wrap64 ((l0.length : Int) - 1))).f0) = 0 then (if 0 ≤ ((rd_T82 l0 (wrap64 ((l0.length : Int) - 1))).f1) then (some ((Int.tmod (shr .i64 a1 ((rd_T82 l0 (wrap64 ((l0.length : Int) - 1))).f1)) 2) == 1)) else (none)) else (if ((rd_T82 l0 (wrap64 ((l0.length : Int) - 1))).f0) = 1 then ((spec_l1Heads.f k a1).bind fun t175 => (some (decide (t175 ≥ ((rd_T82 l0 (wrap64 ((l0.length : Int) - 1))).f1))))) else (if ((rd_T82 l0 (wrap64 ((l0.length : Int) - 1))).f0) = 2 then (if (wrap64 ((l0.length : Int) - 1)) ≤ (l0.length : Int) then ((spec_l3Holds.f k (l0.take ((wrap64 ((l0.length : Int) - 1)) : Int).toNat) a1).bind fun t181 => (some (!t181))) else (none)) else ((spec_l2Starts.f k l0 (wrap64 ((wrap64 ((l0.length : Int) - 1)) - 1))).bind fun t182 => (if 0 ≤ t182 then (if t182 ≤ (l0.length : Int) then ((spec_l3Holds.f k (l0.take (t182 : Int).toNat) a1).bind fun t187 => (if t182 ≤ (wrap64 ((l0.length : Int) - 1)) then (if (wrap64 ((l0.length : Int) - 1)) ≤ (l0.length : Int) then ((spec_l3Holds.f k ((l0.take ((wrap64 ((l0.length : Int) - 1)) : Int).toNat).drop (t182 : Int).toNat) a1).bind fun t192 => (if ((rd_T82 l0 (wrap64 ((l0.length : Int) - 1))).f0) = 3 then (if t187 = true then (some t192) else (some false)) else (if ((rd_T82 l0 (wrap64 ((l0.length : Int) - 1))).f0) = 4 then (if t187 = true then (some true) else (some t192)) else (some (t187 == t192))))) else (none)) else (none))) else (none)) else (none)))))) else (none)) else (none)) = some r := h
 clear h
 obtain ⟨ji3, hji3⟩ : ∃ j_ : Int, (wrap64 ((l0.length : Int) - 1)) = j_ := ⟨_, rfl⟩
 first | rw [hji3] at H | simp only [hji3] at H
 have hji3w : (IntKind.i64.wrap ((l0.length : Int) - 1)) = ji3 := (i64_w _).trans hji3
 revert H; refine g_ (dt_ fun c4b0 => g_ (dt_ fun c5b0 => it_ (qt_ fun c6b0 c6b1 H => ?_) (qfk_ fun c6 c6b0 c6b1 H => ?_)))
 ·revert H; refine g_ (et_ fun c7b0 c7b1 H => ?_)
  obtain ⟨ji8, hji8⟩ : ∃ j_ : Int, (shr .i64 a1 ((rd_T82 l0 (ji3)).f1)) = j_ := ⟨_, rfl⟩
  first | rw [hji8] at H | simp only [hji8] at H
  have hji8_ : (a1 / 2 ^ min ((rd_T82 l0 (ji3)).f1).toNat 64) = ji8 := hji8
  have hji8z : ((rd_T82 l0 (ji3)).f1) ≤ 64 → (a1 / 2 ^ ((rd_T82 l0 (ji3)).f1).toNat) = ji8 := shr_small hji8
  obtain rfl := Option.some.inj H
  have p173 : 0 ≤ ((ji3) : Int) := oa_
  have q173 : (ji3) < (l0.length : Int) := oa_
  obtain ⟨ad173, e173, hx173_0, hx173_1⟩ := at_T82 HR0.out (ji3) p173 q173
  cases e173
  replace p173 := eq_true p173
  replace q173 := eq_true q173
  have p174 : 0 ≤ ((ji3) : Int) := oa_
  have q174 : (ji3) < (l0.length : Int) := oa_
  obtain ⟨ad174, e174, hx174_0, hx174_1⟩ := at_T82 HR0.out (ji3) p174 q174
  obtain rfl : ad173 = ad174 := (by injection e174)
  replace p174 := eq_true p174
  replace q174 := eq_true q174
  go_enter Tryd.func100, Tryd.ntmps100
  go_wp2
  repeat (go_quiet (fail); try go_wp2)
  go_ret
  exact ⟨by first | rfl | (simp; done) | (simp only [← hji3, ← hji8] <;> (first | rfl | simp)) | (simp [*]; done), by repeat (first | exact Drawn0.refl _ | apply Drawn0.step)⟩
 revert H; refine it_ (qt_ fun c9b0 c9b1 H => ?_) (qfk_ fun c9 c9b0 c9b1 H => ?_)
 ·revert H; refine bd_ fun t175 A10 H => ?_
  try dsimp only at H
  obtain rfl := Option.some.inj H
  have p173 : 0 ≤ ((ji3) : Int) := oa_
  have q173 : (ji3) < (l0.length : Int) := oa_
  obtain ⟨ad173, e173, hx173_0, hx173_1⟩ := at_T82 HR0.out (ji3) p173 q173
  cases e173
  replace p173 := eq_true p173
  replace q173 := eq_true q173
  go_enter Tryd.func100, Tryd.ntmps100
  go_wp2_with (first | (go_at_call 109; (with_reducible refine (spec_l1Heads.calls k a1 t175 _ A10.out).mono ?_); rintro e w' ⟨rfl, ⟨nd, rfl⟩⟩; (try exact dr_); have p176 : 0 ≤ ((ji3) : Int) := oa_; have q176 : (ji3) < (l0.length : Int) := oa_; obtain ⟨ad176, e176, hx176_0, hx176_1⟩ := at_T82 HR0.out (ji3) p176 q176; obtain rfl : ad173 = ad176 := (by injection e176); replace p176 := eq_true p176; replace q176 := eq_true q176))
  repeat (go_quiet (first | (go_at_call 109; (with_reducible refine (spec_l1Heads.calls k a1 t175 _ A10.out).mono ?_); rintro e w' ⟨rfl, ⟨nd, rfl⟩⟩; (try exact dr_); have p176 : 0 ≤ ((ji3) : Int) := oa_; have q176 : (ji3) < (l0.length : Int) := oa_; obtain ⟨ad176, e176, hx176_0, hx176_1⟩ := at_T82 HR0.out (ji3) p176 q176; obtain rfl : ad173 = ad176 := (by injection e176); replace p176 := eq_true p176; replace q176 := eq_true q176)); try go_wp2_with (first | (go_at_call 109; (with_reducible refine (spec_l1Heads.calls k a1 t175 _ A10.out).mono ?_); rintro e w' ⟨rfl, ⟨nd, rfl⟩⟩; (try exact dr_); have p176 : 0 ≤ ((ji3) : Int) := oa_; have q176 : (ji3) < (l0.length : Int) := oa_; obtain ⟨ad176, e176, hx176_0, hx176_1⟩ := at_T82 HR0.out (ji3) p176 q176; obtain rfl : ad173 = ad176 := (by injection e176); replace p176 := eq_true p176; replace q176 := eq_true q176)))
  go_ret
  exact ⟨by first | rfl | (simp; done) | (simp only [← hji3] <;> (first | rfl | simp)) | (simp [*]; done), by repeat (first | exact Drawn0.refl _ | apply Drawn0.step)⟩
 revert H; refine it_ (qt_ fun c11b0 c11b1 H => ?_) (qfk_ fun c11 c11b0 c11b1 H => ?_)
 ·have c12b0 := eq_true (oa_ : 0 ≤ (ji3))
  revert H; refine g_ (et_ fun c13b0 c13b1 H => ?_)
  obtain ⟨y177, hy177⟩ : ∃ y_ : List (S82), y_ = (l0.take ((ji3) : Int).toNat) := ⟨_, rfl⟩
  first | (replace H := bn_ hy177 H; try dsimp only at H) | rw [← hy177] at H
  have Ny177 := mk_ hy177
  clear hy177
  replace H := Option.bind_eq_some_iff.mp H
  obtain ⟨t181, A140, H⟩ := H
  replace H : (some (!t181)) = some r := H
  have A14 := mk_ A140
  clear A140
  obtain rfl := Option.some.inj H
  have p173 : 0 ≤ ((ji3) : Int) := oa_
  have q173 : (ji3) < (l0.length : Int) := oa_
  obtain ⟨ad173, e173, hx173_0, hx173_1⟩ := at_T82 HR0.out (ji3) p173 q173
  cases e173
  replace p173 := eq_true p173
  replace q173 := eq_true q173
  have q15 : ((ji3) : Int) ≤ ((l0.length : Int) : Int) := oa_
  obtain ⟨i015, hi015, _, hsz15, _⟩ := info_parts info82
  have hroom15 : l0.length ≤ c0 := HC0.out
  have hC15 : Kd.C k82 _ (some ad173) l0.length l0 := HR0.out
  have hcut15 := cut_to (P := Tryd.prog) 24 82 .i64 Tryd.underlying24 hi015 (some ad173) l0.length c0 (ji3) (oa_) q15 hroom15
  have hr15 := Kd.C_take (m := ((ji3) : Int).toNat) hC15 (by omega)
  have hy15 : y177.length = ((ji3) : Int).toNat := (by rw [Ny177.out, List.length_take]; omega)
  rw [← Ny177.out] at hr15
  rw [← hy15] at hcut15
  have HR180 := mk_ hr15
  have HC180 := mk_ (show y177.length ≤ c0 from by omega)
  clear hr15 hC15 hroom15 hi015 hsz15
  have KY15 := mk_ hy15
  clear hy15
  replace q15 := eq_true q15
  go_enter Tryd.func100, Tryd.ntmps100
  go_wp2_with (first | (go_at_call 100; (with_reducible refine (ih k (by omega) _ _ y177 a1 t181 _ ?side1 ?side2 A14.out).mono ?_); (case side1 => exact Kd.C_below HR180.out lt_); (case side2 => exact HC180.out); rintro e w' ⟨rfl, ⟨nd, rfl⟩⟩; (try exact dr_)))
  repeat (go_quiet (first | (go_at_call 100; (with_reducible refine (ih k (by omega) _ _ y177 a1 t181 _ ?side1 ?side2 A14.out).mono ?_); (case side1 => exact Kd.C_below HR180.out lt_); (case side2 => exact HC180.out); rintro e w' ⟨rfl, ⟨nd, rfl⟩⟩; (try exact dr_))); try go_wp2_with (first | (go_at_call 100; (with_reducible refine (ih k (by omega) _ _ y177 a1 t181 _ ?side1 ?side2 A14.out).mono ?_); (case side1 => exact Kd.C_below HR180.out lt_); (case side2 => exact HC180.out); rintro e w' ⟨rfl, ⟨nd, rfl⟩⟩; (try exact dr_))))
  go_ret
  exact ⟨by first | rfl | (simp; done) | (simp only [← hji3] <;> (first | rfl | simp)) | (simp [*]; done), by repeat (first | exact Drawn0.refl _ | apply Drawn0.step)⟩
 revert H; refine bd_ fun t182 A16 H => ?_
 try dsimp only at H
 revert H; refine g_ (et_ fun c17b0 c17b1 => g_ (et_ fun c18b0 c18b1 H => ?_))
 obtain ⟨y183, hy183⟩ : ∃ y_ : List (S82), y_ = (l0.take (t182 : Int).toNat) := ⟨_, rfl⟩
 first | (replace H := bn_ hy183 H; try dsimp only at H) | rw [← hy183] at H
 have Ny183 := mk_ hy183
 clear hy183
 revert H; refine bd_ fun t187 A19 H => ?_
 try dsimp only at H
 have c20b0 := eq_true (oa_ : 0 ≤ t182)
 revert H; refine g_ (et_ fun c21b0 c21b1 => g_ (et_ fun c22b0 c22b1 H => ?_))
 obtain ⟨y188, hy188⟩ : ∃ y_ : List (S82), y_ = ((l0.take ((ji3) : Int).toNat).drop (t182 : Int).toNat) := ⟨_, rfl⟩
 first | (replace H := bn_ hy188 H; try dsimp only at H) | rw [← hy188] at H
 have Ny188 := mk_ hy188
 clear hy188
 revert H; refine bd_ fun t192 A23 H => ?_
 try dsimp only at H
 have p173 : 0 ≤ ((ji3) : Int) := oa_
 have q173 : (ji3) < (l0.length : Int) := oa_
 obtain ⟨ad173, e173, hx173_0, hx173_1⟩ := at_T82 HR0.out (ji3) p173 q173
 cases e173
 replace p173 := eq_true p173
 replace q173 := eq_true q173
 go_enter Tryd.func100, Tryd.ntmps100
 go_upto_region 13 with (first | (go_at_call 110; (with_reducible refine (spec_l2Starts.calls k _ _ l0 (wrap64 ((ji3) - 1)) t182 _ ?side1 ?side2 A16.out).mono ?_); (case side1 => exact Kd.C_below HR0.out lt_); (case side2 => exact HC0.out); rintro e w' ⟨rfl, ⟨nd, rfl⟩⟩; (try exact dr_); have q36 : (t182 : Int) ≤ ((l0.length : Int) : Int) := oa_; obtain ⟨i036, hi036, _, hsz36, _⟩ := info_parts info82; have hroom36 : l0.length ≤ c0 := HC0.out; have hC36 : Kd.C k82 _ (some ad173) l0.length l0 := HR0.out; have hcut36 := cut_to (P := Tryd.prog) 24 82 .i64 Tryd.underlying24 hi036 (some ad173) l0.length c0 t182 (oa_) q36 hroom36; have hr36 := Kd.C_take (m := (t182 : Int).toNat) hC36 (by omega); have hy36 : y183.length = (t182 : Int).toNat := (by rw [Ny183.out, List.length_take]; omega); rw [← Ny183.out] at hr36; rw [← hy36] at hcut36; have HR186 := mk_ hr36; have HC186 := mk_ (show y183.length ≤ c0 from by omega); clear hr36 hC36 hroom36 hi036 hsz36; have KY36 := mk_ hy36; clear hy36; replace q36 := eq_true q36) | (go_at_call 100; (with_reducible refine (ih k (by omega) _ _ y183 a1 t187 _ ?side1 ?side2 A19.out).mono ?_); (case side1 => exact Kd.C_below HR186.out lt_); (case side2 => exact HC186.out); rintro e w' ⟨rfl, ⟨nd, rfl⟩⟩; (try exact dr_); have q37 : ((ji3) : Int) ≤ ((l0.length : Int) : Int) := oa_; obtain ⟨i037, hi037, _, hsz37, _⟩ := info_parts info82; have hroom37 : l0.length ≤ c0 := HC0.out; have hC37 : Kd.C k82 _ (some ad173) l0.length l0 := HR0.out; have ql37 : (t182 : Int) ≤ ((ji3) : Int) := oa_; have q037 : (0 : Int) ≤ (t182 : Int) := oa_; have hcut37 := cut_mid (P := Tryd.prog) 24 82 .i64 .i64 Tryd.underlying24 hi037 2 hsz37 (some ad173) l0.length c0 t182 (ji3) q037 ql37 q37 hroom37; have hr37 := Kd.C_mid (lo := (t182 : Int).toNat) (hi := ((ji3) : Int).toNat) (c := c0) hC37 (by omega) (by omega) hroom37; obtain ⟨A37, hA37⟩ : ∃ A1, A1 = (if c0 = (t182 : Int).toNat then (some ad173) else ((some ad173) : Option Addr).map (·.add ((t182 : Int).toNat * 2))) := ⟨_, rfl⟩; obtain ⟨c37, hc37⟩ : ∃ c1, c1 = c0 - (t182 : Int).toNat := ⟨_, rfl⟩; have hy37 : y188.length = ((ji3) : Int).toNat - (t182 : Int).toNat := (by rw [Ny188.out, List.length_drop, List.length_take] <;> omega); rw [show ((l0).take ((ji3) : Int).toNat).drop (t182 : Int).toNat = y188 from Ny188.out.symm] at hr37; replace hr37 : Kd.C k82 _ A37 y188.length y188 := (by rw [hA37]; exact hr37); rw [← hy37, ← hA37, ← hc37] at hcut37; have HR191 := mk_ hr37; have HC191 := mk_ (show y188.length ≤ c37 from by rw [hy37, hc37]; exact Nat.sub_le_sub_right (Nat.le_trans (by omega) hroom37) _); clear hr37 hC37 hroom37 hi037 hsz37 hc37; have KY37 := mk_ hy37; have KA37 := mk_ hA37; clear hy37 hA37; replace q37 := eq_true q37) | (go_at_call 100; (with_reducible refine (ih k (by omega) _ _ y188 a1 t192 _ ?side1 ?side2 A23.out).mono ?_); (case side1 => exact Kd.C_below HR191.out lt_); (case side2 => exact HC191.out); rintro e w' ⟨rfl, ⟨nd, rfl⟩⟩; (try exact dr_); have p193 : 0 ≤ ((ji3) : Int) := oa_; have q193 : (ji3) < (l0.length : Int) := oa_; obtain ⟨ad193, e193, hx193_0, hx193_1⟩ := at_T82 HR0.out (ji3) p193 q193; obtain rfl : ad173 = ad193 := (by injection e193); replace p193 := eq_true p193; replace q193 := eq_true q193))
 revert H; refine it_ (qt_ fun c24b0 c24b1 H => ?_) (qfk_ fun c24 c24b0 c24b1 H => ?_)
 ·revert H; refine ib_ ?_ ?_ <;> rintro rfl H
  ·obtain rfl := Option.some.inj H
   go_wp2
   repeat (go_quiet (fail); try go_wp2)
   go_ret
   exact ⟨by first | rfl | (simp; done) | (simp only [← hji3] <;> (first | rfl | simp)) | (simp [*]; done), by repeat (first | exact Drawn0.refl _ | apply Drawn0.step)⟩
  obtain rfl := Option.some.inj H
  go_wp2
  repeat (go_quiet (fail); try go_wp2)
  go_ret
  exact ⟨by first | rfl | (simp; done) | (simp only [← hji3] <;> (first | rfl | simp)) | (simp [*]; done), by repeat (first | exact Drawn0.refl _ | apply Drawn0.step)⟩
 revert H; refine ti_ (qfk_ fun c30 c30b0 c30b1 H => ?_) (qt_ fun c30b0 c30b1 H => ?_)
 ·obtain rfl := Option.some.inj H
  go_wp2
  repeat (go_quiet (fail); try go_wp2)
  go_ret
  exact ⟨by first | rfl | (simp; done) | (simp only [← hji3] <;> (first | rfl | simp)) | (simp [*]; done), by repeat (first | exact Drawn0.refl _ | apply Drawn0.step)⟩
 revert H; refine ib_ ?_ ?_ <;> rintro rfl H
 ·obtain rfl := Option.some.inj H
  go_wp2
  repeat (go_quiet (fail); try go_wp2)
  go_ret
  exact ⟨by first | rfl | (simp; done) | (simp only [← hji3] <;> (first | rfl | simp)) | (simp [*]; done), by repeat (first | exact Drawn0.refl _ | apply Drawn0.step)⟩
 obtain rfl := Option.some.inj H
 go_wp2
 repeat (go_quiet (fail); try go_wp2)
 go_ret
 exact ⟨by first | rfl | (simp; done) | (simp only [← hji3] <;> (first | rfl | simp)) | (simp [*]; done), by repeat (first | exact Drawn0.refl _ | apply Drawn0.step)⟩
def spec_l4May.f (k : Nat) (a0_0 : Int) (l0_1 : List (S82)) (a1 : Int) : Option (Bool) := if 0 ≤ a0_0 then ((spec_l3Holds.f k l0_1 a1).bind fun t195 => (some (((Int.tmod (shr .i64 a1 a0_0) 2) == 1) == t195))) else (none)
set_option maxHeartbeats 8000000 in
set_option maxRecDepth 100000 in
theorem spec_l4May.calls (k : Nat) (a0_0 : Int) (A0_1 : Option Addr) (c0_1 : Nat) (l0_1 : List (S82)) (a1 : Int) (r : Bool) (w : World) (hr0_1 : Kd.C k82 w A0_1 l0_1.length l0_1) (hc0_1 : l0_1.length ≤ c0_1) (h : spec_l4May.f k a0_0 l0_1 a1 = some r) :
  Calls Tryd.prog 101 #[.agg #[.int .i64 a0_0, .slice A0_1 l0_1.length c0_1], .int .i64 a1] w fun e w' => e = .returned (.bool r) ∧ Below w.heap.size w w' := by
 have hu79 := Tryd.underlying79
 have HR0_1 := mk_ hr0_1
 have HC0_1 := mk_ hc0_1
 clear hr0_1 hc0_1
 have HB := mk_ (Below.refl w.heap.size w)
 unfold spec_l4May.f at h
 have H := h
 clear h
 revert H; refine g_ (et_ fun c3b0 c3b1 H => ?_)
 obtain ⟨ji4, hji4⟩ : ∃ j_ : Int, (shr .i64 a1 a0_0) = j_ := ⟨_, rfl⟩
 first | rw [hji4] at H | simp only [hji4] at H
 have hji4_ : (a1 / 2 ^ min a0_0.toNat 64) = ji4 := hji4
 have hji4z : a0_0 ≤ 64 → (a1 / 2 ^ a0_0.toNat) = ji4 := shr_small hji4
 revert H; refine bd_ fun t195 A5 H => ?_
 try dsimp only at H
 obtain rfl := Option.some.inj H
 go_enter Tryd.func101, Tryd.ntmps101
 go_wp2_with (first | (refine gx_ 2 #[.int .i64 a0_0, .slice A0_1 l0_1.length c0_1] 79 ?_; intro gb194 hg w6 hbox hb; have BK194 := mk_ (hbox); have GW194 := gm_ hg HB.out; have GE194 := gm_ hg HB.out; replace HB := mk_ (below_step (below_at HB.out) hb); clear hb hbox hg; have hcz7_0 := blk_cell BK194.out 0; have hcz7_1 := blk_cell BK194.out 1; have hfz7_0 := blk_frozen BK194.out 0; have hfz7_1 := blk_frozen BK194.out 1) | (go_at_call 100; (with_reducible refine (spec_l3Holds.calls k _ _ l0_1 a1 t195 _ ?side1 ?side2 A5.out).mono ?_); (case side1 => exact Kd.C_below (Kd.C_below HR0_1.out HB.out) lt_); (case side2 => exact HC0_1.out); rintro e w' ⟨rfl, ⟨nd, rfl⟩⟩; (try exact dr_)))
 repeat (go_quiet (first | (refine gx_ 2 #[.int .i64 a0_0, .slice A0_1 l0_1.length c0_1] 79 ?_; intro gb194 hg w6 hbox hb; have n0_ := mk_ (below_step (below_at HB.out) hb); have n1_ := mk_ (hbox); have n2_ := mk_ (gb_ hg HB.out); have n3_ := mk_ (gb_ hg HB.out); clear HB; have HB := n0_; have BK194 := n1_; have GW194 := n2_; have GE194 := n3_; clear n0_ n1_ n2_ n3_; clear hb hbox hg; have hcz7_0 := blk_cell BK194.out 0; have hcz7_1 := blk_cell BK194.out 1; have hfz7_0 := blk_frozen BK194.out 0; have hfz7_1 := blk_frozen BK194.out 1) | (go_at_call 100; (with_reducible refine (spec_l3Holds.calls k _ _ l0_1 a1 t195 _ ?side1 ?side2 A5.out).mono ?_); (case side1 => exact Kd.C_below (Kd.C_below HR0_1.out HB.out) lt_); (case side2 => exact HC0_1.out); rintro e w' ⟨rfl, ⟨nd, rfl⟩⟩; (try exact dr_))); try go_wp2_with (first | (refine gx_ 2 #[.int .i64 a0_0, .slice A0_1 l0_1.length c0_1] 79 ?_; intro gb194 hg w6 hbox hb; have BK194 := mk_ (hbox); have GW194 := gm_ hg HB.out; have GE194 := gm_ hg HB.out; replace HB := mk_ (below_step (below_at HB.out) hb); clear hb hbox hg; have hcz7_0 := blk_cell BK194.out 0; have hcz7_1 := blk_cell BK194.out 1; have hfz7_0 := blk_frozen BK194.out 0; have hfz7_1 := blk_frozen BK194.out 1) | (go_at_call 100; (with_reducible refine (spec_l3Holds.calls k _ _ l0_1 a1 t195 _ ?side1 ?side2 A5.out).mono ?_); (case side1 => exact Kd.C_below (Kd.C_below HR0_1.out HB.out) lt_); (case side2 => exact HC0_1.out); rintro e w' ⟨rfl, ⟨nd, rfl⟩⟩; (try exact dr_))))
 go_ret
 exact ⟨by first | rfl | (simp [errW_none, errW_some] <;> rfl) | (simp only [← hji4]; first | rfl | (simp [errW_none, errW_some] <;> rfl)) | (simp [*, errW_none, errW_some] <;> rfl), at_ HB.out⟩
def spec_l4Table.l0 : Nat → Int → Int → Int → Int → List (S82) → Option (Int)
 | 0, _, _, _, _, _ => none
 | k + 1, x0, x5, x6, x197000, x197001 => if 0 ≤ x0 then (if x6 < (shl .i64 1 x0) then ((spec_l4May.f k x197000 x197001 x6).bind fun t197 => (if t197 = true then (if 0 ≤ x6 then (spec_l4Table.l0 k x0 (Go.bits .or .i64 x5 (shl .i64 1 x6)) (wrap64 (x6 + 1)) x197000 x197001) else (none)) else (spec_l4Table.l0 k x0 x5 (wrap64 (x6 + 1)) x197000 x197001))) else (some x5)) else (none)
def spec_l4Table.f (k : Nat) (a0 : Int) (a1_0 : Int) (l1_1 : List (S82)) : Option (Int) := spec_l4Table.l0 k a0 0 0 a1_0 l1_1
set_option maxHeartbeats 8000000 in
set_option maxRecDepth 100000 in
theorem spec_l4Table.calls (k : Nat) (a0 : Int) (a1_0 : Int) (A1_1 : Option Addr) (c1_1 : Nat) (l1_1 : List (S82)) (r : Int) (w : World) (hr1_1 : Kd.C k82 w A1_1 l1_1.length l1_1) (hc1_1 : l1_1.length ≤ c1_1) (h : spec_l4Table.f k a0 a1_0 l1_1 = some r) :
  Calls Tryd.prog 93 #[.int .i64 a0, .agg #[.int .i64 a1_0, .slice A1_1 l1_1.length c1_1]] w fun e w' => e = .returned (.int .i64 r) ∧ Below w.heap.size w w' := by
 have hu79 := Tryd.underlying79
 have HR1_1 := mk_ hr1_1
 have HC1_1 := mk_ hc1_1
 clear hr1_1 hc1_1
 have HB := mk_ (Below.refl w.heap.size w)
 have H : (spec_l4Table.l0 k a0 0 0 a1_0 l1_1) = some r := h
 clear h
 have H' := mk_ H
 clear H
 go_enter Tryd.func93, Tryd.ntmps93
 go_wp2_with (first | (refine gx_ 3 #[.int .i64 a1_0, .slice A1_1 l1_1.length c1_1] 79 ?_; intro gb196 hg w3 hbox hb; have BK196 := mk_ (hbox); have GW196 := gm_ hg HB.out; have GE196 := gm_ hg HB.out; replace HB := mk_ (below_step (below_at HB.out) hb); clear hb hbox hg))
 go_loopg [5, 6] k (fun kq v5 v6 w' => ∃ (x5_1 : Int) (x6_1 : Int), v5 = .int .i64 x5_1 ∧ v6 = .int .i64 x6_1 ∧ Aside0 (spec_l4Table.l0 kq a0 x5_1 x6_1 a1_0 l1_1 = some r) ∧ Aside0 (kq ≤ k) ∧ Aside0 (w'.heap[gb196]? = some (.cells #[.int .i64 a1_0, (.slice A1_1 l1_1.length c1_1)] 79 (0, 0))) ∧ Aside0 (Below w.heap.size w w'))
 case atStart => exact ⟨(0), (0), sm_, sm_, H', ⟨Nat.le_refl _⟩, ⟨by refine bs_ ?_; exact BK196.out⟩, ⟨at_ HB.out⟩⟩
 clear H'
 try clear c1
 try clear p2
 obtain ⟨x5_1, x6_1, rfl, rfl, HA, HK1, BK196, HB⟩ := hrel
 cases gk with
 | zero => exact absurd HA.out (by simp [spec_l4Table.l0])
 | succ k1 =>
  have H := HA.out
  clear HA
  simp only [spec_l4Table.l0] at H
  revert H; refine g_ (et_ fun c4b0 c4b1 H => ?_)
  obtain ⟨ji5, hji5⟩ : ∃ j_ : Int, (shl .i64 1 a0) = j_ := ⟨_, rfl⟩
  first | rw [hji5] at H | simp only [hji5] at H
  have hji5_ : (IntKind.i64.wrap (1 * 2 ^ min a0.toNat 64)) = ji5 := hji5
  have hji5z : a0 ≤ 64 → (IntKind.i64.wrap (1 * 2 ^ a0.toNat)) = ji5 := shl_small hji5
  have hji5u : (IntKind.i64.wrap (2 ^ min a0.toNat 64)) = ji5 := by have h_ := hji5_; rw [Int.one_mul] at h_; exact h_
  have hji5v : a0 ≤ 64 → (IntKind.i64.wrap (2 ^ a0.toNat)) = ji5 := fun hle_ => by have h_ := hji5z hle_; rw [Int.one_mul] at h_; exact h_
  have hji5y : (wrap64 (1 * 2 ^ min a0.toNat 64)) = ji5 := (i64_w _).symm.trans hji5_
  have hji5x : a0 ≤ 64 → (wrap64 (1 * 2 ^ a0.toNat)) = ji5 := fun h_ => (i64_w _).symm.trans (hji5z h_)
  revert H; refine ti_ (df_ fun c6b0 H => ?_) (dt_ fun c6b0 H => ?_)
  ·obtain rfl := Option.some.inj H
   go_wp2
   go_ret
   exact ⟨by first | rfl | (simp [errW_none, errW_some] <;> rfl) | (simp only [← hji5]; first | rfl | (simp [errW_none, errW_some] <;> rfl)) | (simp [*, errW_none, errW_some] <;> rfl), at_ HB.out⟩
  revert H; refine bd_ fun t197 A7 H => ?_
  try dsimp only at H
  revert H; refine bi_ ?_ ?_ <;> rintro rfl H
  ·have H' := mk_ H
   clear H
   have hcz13_0 : wr.cell? ⟨gb196, 0, none⟩ = some (.int .i64 a1_0) := (blk_cell BK196.out 0).trans rfl
   have hcz13_1 : wr.cell? ⟨gb196, 1, none⟩ = some (.slice A1_1 l1_1.length c1_1) := (blk_cell BK196.out 1).trans rfl
   have hfz13_0 := blk_frozen BK196.out 0
   have hfz13_1 := blk_frozen BK196.out 1
   go_wp2_with (first | (refine gc_ 101 (some 15) Tryd.func101 #[.agg #[.int .i64 a1_0, .slice A1_1 l1_1.length c1_1], .int .i64 x6_1] ?_; (with_reducible refine (spec_l4May.calls k1 a1_0 _ _ l1_1 x6_1 false _ ?side1 ?side2 A7.out).mono ?_); (case side1 => exact Kd.C_below (Kd.C_below HR1_1.out HB.out) lt_); (case side2 => exact HC1_1.out); rintro e w14 ⟨rfl, hb⟩; refine ⟨_, rfl, ?_⟩; replace BK196 := mk_ (blk_at BK196.out hb); replace HB := mk_ (below_step (at_ HB.out) hb); (try clear hb)))
   go_roundg k1
   case measure => have := HK1.out; omega
   case rel => exact ⟨(x5_1), (wrap64 (x6_1 + 1)), sm_, sm_, H', ⟨by have := HK1.out; omega⟩, ⟨by refine bs_ ?_; exact BK196.out⟩, ⟨at_ HB.out⟩⟩
  revert H; refine g_ (et_ fun c9b0 c9b1 H => ?_)
  obtain ⟨ji10, hji10⟩ : ∃ j_ : Int, (shl .i64 1 x6_1) = j_ := ⟨_, rfl⟩
  first | rw [hji10] at H | simp only [hji10] at H
  (try rw [hji10] at A7)
  have hji10_ : (IntKind.i64.wrap (1 * 2 ^ min x6_1.toNat 64)) = ji10 := hji10
  have hji10z : x6_1 ≤ 64 → (IntKind.i64.wrap (1 * 2 ^ x6_1.toNat)) = ji10 := shl_small hji10
  have hji10u : (IntKind.i64.wrap (2 ^ min x6_1.toNat 64)) = ji10 := by have h_ := hji10_; rw [Int.one_mul] at h_; exact h_
  have hji10v : x6_1 ≤ 64 → (IntKind.i64.wrap (2 ^ x6_1.toNat)) = ji10 := fun hle_ => by have h_ := hji10z hle_; rw [Int.one_mul] at h_; exact h_
  have hji10y : (wrap64 (1 * 2 ^ min x6_1.toNat 64)) = ji10 := (i64_w _).symm.trans hji10_
  have hji10x : x6_1 ≤ 64 → (wrap64 (1 * 2 ^ x6_1.toNat)) = ji10 := fun h_ => (i64_w _).symm.trans (hji10z h_)
  have H' := mk_ H
  clear H
  have hcz11_0 : wr.cell? ⟨gb196, 0, none⟩ = some (.int .i64 a1_0) := (blk_cell BK196.out 0).trans rfl
  have hcz11_1 : wr.cell? ⟨gb196, 1, none⟩ = some (.slice A1_1 l1_1.length c1_1) := (blk_cell BK196.out 1).trans rfl
  have hfz11_0 := blk_frozen BK196.out 0
  have hfz11_1 := blk_frozen BK196.out 1
  go_wp2_with (first | (refine gc_ 101 (some 15) Tryd.func101 #[.agg #[.int .i64 a1_0, .slice A1_1 l1_1.length c1_1], .int .i64 x6_1] ?_; (with_reducible refine (spec_l4May.calls k1 a1_0 _ _ l1_1 x6_1 true _ ?side1 ?side2 A7.out).mono ?_); (case side1 => exact Kd.C_below (Kd.C_below HR1_1.out HB.out) lt_); (case side2 => exact HC1_1.out); rintro e w12 ⟨rfl, hb⟩; refine ⟨_, rfl, ?_⟩; replace BK196 := mk_ (blk_at BK196.out hb); replace HB := mk_ (below_step (at_ HB.out) hb); (try clear hb)))
  go_roundg k1
  case measure => have := HK1.out; omega
  case rel => exact ⟨(Go.bits .or .i64 x5_1 (ji10)), (wrap64 (x6_1 + 1)), (by first | rfl | (simp; done) | (simp only [← hji10] <;> (first | rfl | simp)) | (simp [*]; done)), sm_, H', ⟨by have := HK1.out; omega⟩, ⟨by refine bs_ ?_; exact BK196.out⟩, ⟨at_ HB.out⟩⟩
end Go.Proofs.YtcaogllnbpmcgaaDoor.P

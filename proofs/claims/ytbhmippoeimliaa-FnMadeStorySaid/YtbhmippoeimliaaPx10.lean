/- Written by our program myprint.py out of Lean's print of the translation: Go's function comes to just the answer of the Lean function told here. -/
import Derived.Test.YtbhmippoeimliaaPx0
import Derived.Test.YtbhmippoeimliaaPx8
namespace Go.Proofs.Ytbhmippoeimliaa.P
open Go.RowKit Go.Proofs.YtbhmippoeimliaaW.PrintWords Go.Proofs.YtbhmippoeimliaaW.PrintLast Go.Proofs.YtbhmippoeimliaaW.PrintMore
attribute [local go_sem] max2_int min2_int max_two min_two max_three min_three max_four min_four   -- for this text's walks alone
set_option linter.unusedVariables false
set_option linter.unusedSimpArgs false

/-! ### spec_WorldOk: function 100 -/
def spec_WorldOk.f (a0 : Int) (a1 : Int) : Option (Bool) := (spec_l1In.f a0 1 4).bind fun t177 => (if t177 = true then (if 0 ≤ a0 then ((spec_l1In.f a1 0 (wrap64 ((shl .i64 1 a0) - 1))).bind fun t178 => (some t178)) else (none)) else (some false))
set_option maxHeartbeats 8000000 in
set_option maxRecDepth 100000 in
theorem spec_WorldOk.calls (a0 : Int) (a1 : Int) (r : Bool) (w : World) (h : spec_WorldOk.f a0 a1 = some r) :
  Calls Try.prog 100 #[.int .i64 a0, .int .i64 a1] w fun e w' => e = .returned (.bool r) ∧ Drawn0 w w' := by
 have H : ((spec_l1In.f a0 1 4).bind fun t177 => (if t177 = true then (if 0 ≤ a0 then ((spec_l1In.f a1 0 (wrap64 ((shl .i64 1 a0) - 1))).bind fun t178 => (some t178)) else (none)) else (some false))) = some r := h
 clear h
 replace H := Option.bind_eq_some_iff.mp H
 obtain ⟨t177, A30, H⟩ := H
 try dsimp only at H
 have A3 := Aside0.mk A30
 clear A30
 by_cases c4 : t177 = true
 rotate_left
 ·replace c4 := Bool.eq_false_iff.mpr c4
  subst c4
  rw [if_neg (show ¬ (false = true) by decide)] at H
  obtain rfl := Option.some.inj H
  go_enter Try.func100, Try.ntmps100
  go_wp2_with (first | ((with_reducible refine gate_callee (f := 99) rfl ?_); refine goesL_ (some 6) rfl rfl Try.func99 (by kernel_rfl) rfl #[.int .i64 a0, .int .i64 1, .int .i64 4] rfl (by (try simp only [List.map_toArray, List.map_cons, List.map_nil]); first | done | rfl | (simp only [List.length_drop, List.length_take]; rfl)) ?_; (with_reducible refine (spec_l1In.calls a0 1 4 false _ A3.out).mono ?_); rintro e w' ⟨rfl, ⟨nd, rfl⟩⟩; refine ⟨_, rfl, ?_⟩))
  go_ret
  exact ⟨by first | rfl | (simp; done) | (simp [*]; done), by repeat (first | exact Drawn0.refl _ | apply Drawn0.step)⟩
 subst c4
 rw [if_pos rfl] at H
 by_cases c5 : 0 ≤ a0
 rotate_left
 ·rw [if_neg c5] at H
  exact absurd H (by simp)
 rw [if_pos c5] at H
 have c5b0 := eq_true c5
 have c5b1 : decide (0 ≤ a0) = true := decide_eq_true c5
 clear c5
 obtain ⟨ji6, hji6⟩ : ∃ j_ : Int, (shl .i64 1 a0) = j_ := ⟨_, rfl⟩
 replace H : ((spec_l1In.f a1 0 (wrap64 ((ji6) - 1))).bind fun t178 => (some t178)) = some r := by first | (rw [hji6] at H; exact H) | (simp only [hji6] at H ⊢; exact H)
 (try rw [hji6] at A3)
 have hji6_ : (IntKind.i64.wrap (1 * 2 ^ min a0.toNat 64)) = ji6 := hji6
 have hji6z : a0 ≤ 64 → (IntKind.i64.wrap (1 * 2 ^ a0.toNat)) = ji6 := shl_small hji6
 have hji6u : (IntKind.i64.wrap (2 ^ min a0.toNat 64)) = ji6 := by have h_ := hji6_; rw [Int.one_mul] at h_; exact h_
 have hji6v : a0 ≤ 64 → (IntKind.i64.wrap (2 ^ a0.toNat)) = ji6 := fun hle_ => by have h_ := hji6z hle_; rw [Int.one_mul] at h_; exact h_
 have hji6y : (wrap64 (1 * 2 ^ min a0.toNat 64)) = ji6 := (i64_w _).symm.trans hji6_
 have hji6x : a0 ≤ 64 → (wrap64 (1 * 2 ^ a0.toNat)) = ji6 := fun h_ => (i64_w _).symm.trans (hji6z h_)
 replace H := Option.bind_eq_some_iff.mp H
 obtain ⟨t178, A70, H⟩ := H
 replace H : (some t178) = some r := H
 have A7 := Aside0.mk A70
 clear A70
 obtain rfl := Option.some.inj H
 go_enter Try.func100, Try.ntmps100
 go_wp2_with (first | ((with_reducible refine gate_callee (f := 99) rfl ?_); refine goesL_ (some 6) rfl rfl Try.func99 (by kernel_rfl) rfl #[.int .i64 a0, .int .i64 1, .int .i64 4] rfl (by (try simp only [List.map_toArray, List.map_cons, List.map_nil]); first | done | rfl | (simp only [List.length_drop, List.length_take]; rfl)) ?_; (with_reducible refine (spec_l1In.calls a0 1 4 true _ A3.out).mono ?_); rintro e w' ⟨rfl, ⟨nd, rfl⟩⟩; refine ⟨_, rfl, ?_⟩) | (go_at_call 99; (with_reducible refine (spec_l1In.calls a1 0 (wrap64 ((ji6) - 1)) t178 _ A7.out).mono ?_); rintro e w' ⟨rfl, ⟨nd, rfl⟩⟩))
 go_ret
 exact ⟨by first | rfl | (simp; done) | (simp only [← hji6] <;> (first | rfl | simp)) | (simp [*]; done), by repeat (first | exact Drawn0.refl _ | apply Drawn0.step)⟩

/-! ### spec_l1Heads: function 91 -/
def spec_l1Heads.l0 : Nat → Int → Int → Option (Int)
 | 0, _, _ => none
 | k + 1, x0, x3 => if x0 > 0 then (spec_l1Heads.l0 k (wrap64 (Int.tdiv x0 2)) (wrap64 (x3 + (Int.tmod x0 2)))) else (some x3)
def spec_l1Heads.f (k : Nat) (a0 : Int) : Option (Int) := spec_l1Heads.l0 k a0 0
theorem spec_l1Heads.mono_l : ∀ k, (∀ y0 y1, LeO (spec_l1Heads.l0 k y0 y1) (spec_l1Heads.l0 (k + 1) y0 y1))
 | 0 => fun _ _ r h => by simp [spec_l1Heads.l0] at h
 | k + 1 => by
  have ih0 := spec_l1Heads.mono_l k
  ·intro y0 y1
   unfold spec_l1Heads.l0
   repeat' first
   | (with_reducible exact ih0 _ _)
   | (with_reducible exact LeO.refl _)
   | (with_reducible exact LeO.none _)
   | (with_reducible refine LeO.ite ?_ ?_)
   | (with_reducible refine LeO.bind ?_ (fun _ => ?_))
   | exact ih0 _ _
   | exact LeO.none _
   | refine LeO.ite ?_ ?_
   | refine LeO.bind ?_ (fun _ => ?_)
theorem spec_l1Heads.mono : ∀ a0 k, LeO (spec_l1Heads.f k a0) (spec_l1Heads.f (k + 1) a0) := by
 intro a0 k
 have ih0 := spec_l1Heads.mono_l k
 unfold spec_l1Heads.f
 repeat' first
   | (with_reducible exact ih0 _ _)
   | (with_reducible exact LeO.refl _)
   | (with_reducible exact LeO.none _)
   | (with_reducible refine LeO.ite ?_ ?_)
   | (with_reducible refine LeO.bind ?_ (fun _ => ?_))
   | exact ih0 _ _
   | exact LeO.none _
   | refine LeO.ite ?_ ?_
   | refine LeO.bind ?_ (fun _ => ?_)
set_option maxHeartbeats 8000000 in
set_option maxRecDepth 100000 in
theorem spec_l1Heads.calls (k : Nat) (a0 : Int) (r : Int) (w : World) (h : spec_l1Heads.f k a0 = some r) :
  Calls Try.prog 91 #[.int .i64 a0] w fun e w' => e = .returned (.int .i64 r) ∧ Drawn0 w w' := by
 have H : (spec_l1Heads.l0 k a0 0) = some r := h
 clear h
 have H' := Aside0.mk H
 clear H
 go_enter Try.func91, Try.ntmps91
 go_wp2
 go_loopg [0, 3] k (fun kq v0 v3 w' => ∃ (x0_1 : Int) (x3_1 : Int), v0 = .int .i64 x0_1 ∧ v3 = .int .i64 x3_1 ∧ Aside0 (spec_l1Heads.l0 kq x0_1 x3_1 = some r) ∧ Aside0 (kq ≤ k) ∧ Drawn0 w w')
 case atStart => exact ⟨(a0), (0), (by first | rfl | (simp; done) | (simp [*]; done)), (by first | rfl | (simp; done) | (simp [*]; done)), H', ⟨Nat.le_refl _⟩, by repeat (first | exact Drawn0.refl _ | apply Drawn0.step)⟩
 clear H'
 obtain ⟨x0_1, x3_1, rfl, rfl, HA, HK1, ⟨m1, rfl⟩⟩ := hrel
 cases gk with
 | zero => exact absurd HA.out (by simp [spec_l1Heads.l0])
 | succ k1 =>
  have H := HA.out
  clear HA
  simp only [spec_l1Heads.l0] at H
  by_cases c2 : x0_1 > 0
  rotate_left
  ·rw [if_neg c2] at H
   have c2b0 : decide (0 < x0_1) = false := decide_eq_false c2
   clear c2
   obtain rfl := Option.some.inj H
   go_wp2
   go_ret
   exact ⟨by first | rfl | (simp; done) | (simp [*]; done), by repeat (first | exact Drawn0.refl _ | apply Drawn0.step)⟩
  rw [if_pos c2] at H
  have c2b0 : decide (0 < x0_1) = true := decide_eq_true c2
  clear c2
  have H' := Aside0.mk H
  clear H
  go_wp2
  go_roundg k1
  case measure => have := HK1.out; omega
  case rel => exact ⟨(wrap64 (Int.tdiv x0_1 2)), (wrap64 (x3_1 + (Int.tmod x0_1 2))), (by first | rfl | (simp; done) | (simp [*]; done)), (by first | rfl | (simp; done) | (simp [*]; done)), H', ⟨by have := HK1.out; omega⟩, by repeat (first | exact Drawn0.refl _ | apply Drawn0.step)⟩

/-! ### spec_l2Starts: function 121 -/
def spec_l2Starts.l0 : Nat → List (S81) → Int → Int → Option (Int)
 | 0, _, _, _ => none
 | k + 1, x0, x5, x6 => if x5 > 0 then (if 0 ≤ x6 then (if x6 < (x0.length : Int) then (if ((rd_T81 x0 x6).f0) ≤ 1 then (spec_l2Starts.l0 k x0 (wrap64 (x5 - 1)) (wrap64 (x6 - 1))) else (if ((rd_T81 x0 x6).f0) > 2 then (spec_l2Starts.l0 k x0 (wrap64 (x5 + 1)) (wrap64 (x6 - 1))) else (spec_l2Starts.l0 k x0 x5 (wrap64 (x6 - 1))))) else (none)) else (none)) else (some (wrap64 (x6 + 1)))
def spec_l2Starts.f (k : Nat) (l0 : List (S81)) (a1 : Int) : Option (Int) := spec_l2Starts.l0 k l0 1 a1
theorem spec_l2Starts.mono_l : ∀ k, (∀ y0 y1 y2, LeO (spec_l2Starts.l0 k y0 y1 y2) (spec_l2Starts.l0 (k + 1) y0 y1 y2))
 | 0 => fun _ _ _ r h => by simp [spec_l2Starts.l0] at h
 | k + 1 => by
  have ih0 := spec_l2Starts.mono_l k
  ·intro y0 y1 y2
   unfold spec_l2Starts.l0
   repeat' first
   | (with_reducible exact ih0 _ _ _)
   | (with_reducible exact LeO.refl _)
   | (with_reducible exact LeO.none _)
   | (with_reducible refine LeO.ite ?_ ?_)
   | (with_reducible refine LeO.bind ?_ (fun _ => ?_))
   | exact ih0 _ _ _
   | exact LeO.none _
   | refine LeO.ite ?_ ?_
   | refine LeO.bind ?_ (fun _ => ?_)
theorem spec_l2Starts.mono : ∀ a0 a1 k, LeO (spec_l2Starts.f k a0 a1) (spec_l2Starts.f (k + 1) a0 a1) := by
 intro a0 a1 k
 have ih0 := spec_l2Starts.mono_l k
 unfold spec_l2Starts.f
 repeat' first
   | (with_reducible exact ih0 _ _ _)
   | (with_reducible exact LeO.refl _)
   | (with_reducible exact LeO.none _)
   | (with_reducible refine LeO.ite ?_ ?_)
   | (with_reducible refine LeO.bind ?_ (fun _ => ?_))
   | exact ih0 _ _ _
   | exact LeO.none _
   | refine LeO.ite ?_ ?_
   | refine LeO.bind ?_ (fun _ => ?_)
set_option maxHeartbeats 8000000 in
set_option maxRecDepth 100000 in
theorem spec_l2Starts.calls (k : Nat) (A0 : Option Addr) (c0 : Nat) (l0 : List (S81)) (a1 : Int) (r : Int) (w : World) (hr0 : Kd.C k81 w A0 l0.length l0) (hc0 : l0.length ≤ c0) (h : spec_l2Starts.f k l0 a1 = some r) :
  Calls Try.prog 121 #[.slice A0 l0.length c0, .int .i64 a1] w fun e w' => e = .returned (.int .i64 r) ∧ Drawn0 w w' := by
 have HR0 := Aside0.mk hr0
 have HC0 := Aside0.mk hc0
 clear hr0 hc0
 have H : (spec_l2Starts.l0 k l0 1 a1) = some r := h
 clear h
 have H' := Aside0.mk H
 clear H
 go_enter Try.func121, Try.ntmps121
 go_wp2
 go_loopg [5, 6] k (fun kq v5 v6 w' => ∃ (x5_1 : Int) (x6_1 : Int), v5 = .int .i64 x5_1 ∧ v6 = .int .i64 x6_1 ∧ Aside0 (spec_l2Starts.l0 kq l0 x5_1 x6_1 = some r) ∧ Aside0 (kq ≤ k) ∧ Drawn0 w w')
 case atStart => exact ⟨(1), (a1), (by first | rfl | (simp; done) | (simp [*]; done)), (by first | rfl | (simp; done) | (simp [*]; done)), H', ⟨Nat.le_refl _⟩, by repeat (first | exact Drawn0.refl _ | apply Drawn0.step)⟩
 clear H'
 try clear c1
 try clear p2
 obtain ⟨x5_1, x6_1, rfl, rfl, HA, HK1, ⟨m1, rfl⟩⟩ := hrel
 cases gk with
 | zero => exact absurd HA.out (by simp [spec_l2Starts.l0])
 | succ k1 =>
  have H := HA.out
  clear HA
  simp only [spec_l2Starts.l0] at H
  by_cases c3 : x5_1 > 0
  rotate_left
  ·rw [if_neg c3] at H
   have c3b0 : decide (0 < x5_1) = false := decide_eq_false c3
   clear c3
   obtain rfl := Option.some.inj H
   go_wp2
   go_ret
   exact ⟨by first | rfl | (simp; done) | (simp [*]; done), by repeat (first | exact Drawn0.refl _ | apply Drawn0.step)⟩
  rw [if_pos c3] at H
  have c3b0 : decide (0 < x5_1) = true := decide_eq_true c3
  clear c3
  by_cases c4 : 0 ≤ x6_1
  rotate_left
  ·rw [if_neg c4] at H
   exact absurd H (by simp)
  rw [if_pos c4] at H
  have c4b0 : decide (0 ≤ x6_1) = true := decide_eq_true c4
  clear c4
  by_cases c5 : x6_1 < (l0.length : Int)
  rotate_left
  ·rw [if_neg c5] at H
   exact absurd H (by simp)
  rw [if_pos c5] at H
  have c5b0 : decide (x6_1 < (l0.length : Int)) = true := decide_eq_true c5
  clear c5
  by_cases c6 : ((rd_T81 l0 x6_1).f0) ≤ 1
  ·rw [if_pos c6] at H
   have c6b0 : decide (((rd_T81 l0 x6_1).f0) ≤ 1) = true := decide_eq_true c6
   clear c6
   have H' := Aside0.mk H
   clear H
   have p179 : 0 ≤ (x6_1 : Int) := of_decide_eq_true (by assumption)
   have q179 : x6_1 < (l0.length : Int) := of_decide_eq_true (by assumption)
   obtain ⟨ad179, e179, hx179_0, hx179_1⟩ := at_T81 HR0.out x6_1 p179 q179
   cases e179
   replace p179 := eq_true p179
   replace q179 := eq_true q179
   go_wp2
   go_roundg k1
   case measure => have := HK1.out; omega
   case rel => exact ⟨(wrap64 (x5_1 - 1)), (wrap64 (x6_1 - 1)), (by first | rfl | (simp; done) | (simp [*]; done)), (by first | rfl | (simp; done) | (simp [*]; done)), H', ⟨by have := HK1.out; omega⟩, by repeat (first | exact Drawn0.refl _ | apply Drawn0.step)⟩
  rw [if_neg c6] at H
  have c6b0 : decide (((rd_T81 l0 x6_1).f0) ≤ 1) = false := decide_eq_false c6
  clear c6
  by_cases c7 : ((rd_T81 l0 x6_1).f0) > 2
  ·rw [if_pos c7] at H
   have c7b0 : decide (2 < ((rd_T81 l0 x6_1).f0)) = true := decide_eq_true c7
   clear c7
   have H' := Aside0.mk H
   clear H
   have p179 : 0 ≤ (x6_1 : Int) := of_decide_eq_true (by assumption)
   have q179 : x6_1 < (l0.length : Int) := of_decide_eq_true (by assumption)
   obtain ⟨ad179, e179, hx179_0, hx179_1⟩ := at_T81 HR0.out x6_1 p179 q179
   cases e179
   replace p179 := eq_true p179
   replace q179 := eq_true q179
   have p180 : 0 ≤ (x6_1 : Int) := of_decide_eq_true (by assumption)
   have q180 : x6_1 < (l0.length : Int) := of_decide_eq_true (by assumption)
   obtain ⟨ad180, e180, hx180_0, hx180_1⟩ := at_T81 HR0.out x6_1 p180 q180
   obtain rfl : ad179 = ad180 := (by injection e180)
   replace p180 := eq_true p180
   replace q180 := eq_true q180
   go_wp2
   go_roundg k1
   case measure => have := HK1.out; omega
   case rel => exact ⟨(wrap64 (x5_1 + 1)), (wrap64 (x6_1 - 1)), (by first | rfl | (simp; done) | (simp [*]; done)), (by first | rfl | (simp; done) | (simp [*]; done)), H', ⟨by have := HK1.out; omega⟩, by repeat (first | exact Drawn0.refl _ | apply Drawn0.step)⟩
  rw [if_neg c7] at H
  have c7b0 : decide (2 < ((rd_T81 l0 x6_1).f0)) = false := decide_eq_false c7
  clear c7
  have H' := Aside0.mk H
  clear H
  have p179 : 0 ≤ (x6_1 : Int) := of_decide_eq_true (by assumption)
  have q179 : x6_1 < (l0.length : Int) := of_decide_eq_true (by assumption)
  obtain ⟨ad179, e179, hx179_0, hx179_1⟩ := at_T81 HR0.out x6_1 p179 q179
  cases e179
  replace p179 := eq_true p179
  replace q179 := eq_true q179
  have p180 : 0 ≤ (x6_1 : Int) := of_decide_eq_true (by assumption)
  have q180 : x6_1 < (l0.length : Int) := of_decide_eq_true (by assumption)
  obtain ⟨ad180, e180, hx180_0, hx180_1⟩ := at_T81 HR0.out x6_1 p180 q180
  obtain rfl : ad179 = ad180 := (by injection e180)
  replace p180 := eq_true p180
  replace q180 := eq_true q180
  go_wp2
  go_roundg k1
  case measure => have := HK1.out; omega
  case rel => exact ⟨(x5_1), (wrap64 (x6_1 - 1)), (by first | rfl | (simp; done) | (simp [*]; done)), (by first | rfl | (simp; done) | (simp [*]; done)), H', ⟨by have := HK1.out; omega⟩, by repeat (first | exact Drawn0.refl _ | apply Drawn0.step)⟩

/-! ### spec_l3Holds: function 111 -/
def spec_l3Holds.f : Nat → List (S81) → Int → Option (Bool)
 | 0, _, _ => none
 | k + 1, l0, a1 => if 0 ≤ (wrap64 ((l0.length : Int) - 1)) then (if (wrap64 ((l0.length : Int) - 1)) < (l0.length : Int) then (if ((rd_T81 l0 (wrap64 ((l0.length : Int) - 1))).f0) = 0 then (if 0 ≤ ((rd_T81 l0 (wrap64 ((l0.length : Int) - 1))).f1) then (some ((Int.tmod (shr .i64 a1 ((rd_T81 l0 (wrap64 ((l0.length : Int) - 1))).f1)) 2) == 1)) else (none)) else (if ((rd_T81 l0 (wrap64 ((l0.length : Int) - 1))).f0) = 1 then ((spec_l1Heads.f k a1).bind fun t183 => (some (decide (t183 ≥ ((rd_T81 l0 (wrap64 ((l0.length : Int) - 1))).f1))))) else (if ((rd_T81 l0 (wrap64 ((l0.length : Int) - 1))).f0) = 2 then (if (wrap64 ((l0.length : Int) - 1)) ≤ (l0.length : Int) then ((spec_l3Holds.f k (l0.take ((wrap64 ((l0.length : Int) - 1)) : Int).toNat) a1).bind fun t189 => (some (!t189))) else (none)) else ((spec_l2Starts.f k l0 (wrap64 ((wrap64 ((l0.length : Int) - 1)) - 1))).bind fun t190 => (if 0 ≤ t190 then (if t190 ≤ (l0.length : Int) then ((spec_l3Holds.f k (l0.take (t190 : Int).toNat) a1).bind fun t195 => (if t190 ≤ (wrap64 ((l0.length : Int) - 1)) then (if (wrap64 ((l0.length : Int) - 1)) ≤ (l0.length : Int) then ((spec_l3Holds.f k ((l0.take ((wrap64 ((l0.length : Int) - 1)) : Int).toNat).drop (t190 : Int).toNat) a1).bind fun t200 => (if ((rd_T81 l0 (wrap64 ((l0.length : Int) - 1))).f0) = 3 then (if t195 = true then (some t200) else (some false)) else (if ((rd_T81 l0 (wrap64 ((l0.length : Int) - 1))).f0) = 4 then (if t195 = true then (some true) else (some t200)) else (some (t195 == t200))))) else (none)) else (none))) else (none)) else (none)))))) else (none)) else (none)
theorem spec_l3Holds.mono_l : ∀ k, (∀ y0 y1, LeO (spec_l3Holds.f k y0 y1) (spec_l3Holds.f (k + 1) y0 y1))
 | 0 => fun _ _ r h => by simp [spec_l3Holds.f] at h
 | k + 1 => by
  have ih0 := spec_l3Holds.mono_l k
  ·intro y0 y1
   unfold spec_l3Holds.f
   repeat' first
   | (with_reducible exact ih0 _ _)
   | (with_reducible exact spec_l1Heads.mono _ _)
   | (with_reducible exact spec_l2Starts.mono _ _ _)
   | (with_reducible exact LeO.refl _)
   | (with_reducible exact LeO.none _)
   | (with_reducible refine LeO.ite ?_ ?_)
   | (with_reducible refine LeO.bind ?_ (fun _ => ?_))
   | exact ih0 _ _
   | exact spec_l1Heads.mono _ _
   | exact spec_l2Starts.mono _ _ _
   | exact LeO.none _
   | refine LeO.ite ?_ ?_
   | refine LeO.bind ?_ (fun _ => ?_)
theorem spec_l3Holds.mono : ∀ a0 a1 k, LeO (spec_l3Holds.f k a0 a1) (spec_l3Holds.f (k + 1) a0 a1) := by
 intro a0 a1 k
 have ih0 := spec_l3Holds.mono_l k
 exact ih0 a0 a1
set_option maxHeartbeats 8000000 in
set_option maxRecDepth 100000 in
theorem spec_l3Holds.calls (k : Nat) : ∀ (A0 : Option Addr) (c0 : Nat) (l0 : List (S81)) (a1 : Int) (r : Bool) (w : World) (hr0 : Kd.C k81 w A0 l0.length l0) (hc0 : l0.length ≤ c0) (h : spec_l3Holds.f k l0 a1 = some r),
  Calls Try.prog 111 #[.slice A0 l0.length c0, .int .i64 a1] w fun e w' => e = .returned (.bool r) ∧ Drawn0 w w' := by
 induction k using Nat.strongRecOn with
 | _ k ih =>
 intro A0 c0 l0 a1 r w hr0 hc0 h
 cases k with
 | zero => exact absurd h (by simp [spec_l3Holds.f])
 | succ k =>
 simp only [spec_l3Holds.f] at h
 have HR0 := Aside0.mk hr0
 have HC0 := Aside0.mk hc0
 clear hr0 hc0
 have H : (if 0 ≤ (wrap64 ((l0.length : Int) - 1)) then (if (wrap64 ((l0.length : Int) - 1)) < (l0.length : Int) then (if ((rd_T81 l0 (wrap64 ((l0.length : Int) - 1))).f0) = 0 then (if 0 ≤ ((rd_T81 l0 (wrap64 ((l0.length : Int) - 1))).f1) then (some ((Int.tmod (shr .i64 a1 ((rd_T81 l0 (wrap64 ((l0.length : Int) - 1))).f1)) 2) == 1)) else (none)) else (if ((rd_T81 l0 (wrap64 ((l0.length : Int) - 1))).f0) = 1 then ((spec_l1Heads.f k a1).bind fun t183 => (some (decide (t183 ≥ ((rd_T81 l0 (wrap64 ((l0.length : Int) - 1))).f1))))) else (if ((rd_T81 l0 (wrap64 ((l0.length : Int) - 1))).f0) = 2 then (if (wrap64 ((l0.length : Int) - 1)) ≤ (l0.length : Int) then ((spec_l3Holds.f k (l0.take ((wrap64 ((l0.length : Int) - 1)) : Int).toNat) a1).bind fun t189 => (some (!t189))) else (none)) else ((spec_l2Starts.f k l0 (wrap64 ((wrap64 ((l0.length : Int) - 1)) - 1))).bind fun t190 => (if 0 ≤ t190 then (if t190 ≤ (l0.length : Int) then ((spec_l3Holds.f k (l0.take (t190 : Int).toNat) a1).bind fun t195 => (if t190 ≤ (wrap64 ((l0.length : Int) - 1)) then (if (wrap64 ((l0.length : Int) - 1)) ≤ (l0.length : Int) then ((spec_l3Holds.f k ((l0.take ((wrap64 ((l0.length : Int) - 1)) : Int).toNat).drop (t190 : Int).toNat) a1).bind fun t200 => (if ((rd_T81 l0 (wrap64 ((l0.length : Int) - 1))).f0) = 3 then (if t195 = true then (some t200) else (some false)) else (if ((rd_T81 l0 (wrap64 ((l0.length : Int) - 1))).f0) = 4 then (if t195 = true then (some true) else (some t200)) else (some (t195 == t200))))) else (none)) else (none))) else (none)) else (none)))))) else (none)) else (none)) = some r := h
 clear h
 obtain ⟨ji3, hji3⟩ : ∃ j_ : Int, (wrap64 ((l0.length : Int) - 1)) = j_ := ⟨_, rfl⟩
 replace H : (if 0 ≤ (ji3) then (if (ji3) < (l0.length : Int) then (if ((rd_T81 l0 (ji3)).f0) = 0 then (if 0 ≤ ((rd_T81 l0 (ji3)).f1) then (some ((Int.tmod (shr .i64 a1 ((rd_T81 l0 (ji3)).f1)) 2) == 1)) else (none)) else (if ((rd_T81 l0 (ji3)).f0) = 1 then ((spec_l1Heads.f k a1).bind fun t183 => (some (decide (t183 ≥ ((rd_T81 l0 (ji3)).f1))))) else (if ((rd_T81 l0 (ji3)).f0) = 2 then (if (ji3) ≤ (l0.length : Int) then ((spec_l3Holds.f k (l0.take ((ji3) : Int).toNat) a1).bind fun t189 => (some (!t189))) else (none)) else ((spec_l2Starts.f k l0 (wrap64 ((ji3) - 1))).bind fun t190 => (if 0 ≤ t190 then (if t190 ≤ (l0.length : Int) then ((spec_l3Holds.f k (l0.take (t190 : Int).toNat) a1).bind fun t195 => (if t190 ≤ (ji3) then (if (ji3) ≤ (l0.length : Int) then ((spec_l3Holds.f k ((l0.take ((ji3) : Int).toNat).drop (t190 : Int).toNat) a1).bind fun t200 => (if ((rd_T81 l0 (ji3)).f0) = 3 then (if t195 = true then (some t200) else (some false)) else (if ((rd_T81 l0 (ji3)).f0) = 4 then (if t195 = true then (some true) else (some t200)) else (some (t195 == t200))))) else (none)) else (none))) else (none)) else (none)))))) else (none)) else (none)) = some r := by first | (rw [hji3] at H; exact H) | (simp only [hji3] at H ⊢; exact H)
 have hji3w : (IntKind.i64.wrap ((l0.length : Int) - 1)) = ji3 := (i64_w _).trans hji3
 by_cases c4 : 0 ≤ (ji3)
 rotate_left
 ·rw [if_neg c4] at H
  exact absurd H (by simp)
 rw [if_pos c4] at H
 have c4b0 : decide (0 ≤ (ji3)) = true := decide_eq_true c4
 clear c4
 by_cases c5 : (ji3) < (l0.length : Int)
 rotate_left
 ·rw [if_neg c5] at H
  exact absurd H (by simp)
 rw [if_pos c5] at H
 have c5b0 : decide ((ji3) < (l0.length : Int)) = true := decide_eq_true c5
 clear c5
 by_cases c6 : ((rd_T81 l0 (ji3)).f0) = 0
 ·rw [if_pos c6] at H
  have c6b0 : (((rd_T81 l0 (ji3)).f0) == 0) = true := beq_iff_eq.mpr c6
  have c6b1 : (((rd_T81 l0 (ji3)).f0) != 0) = false := bne_eq_false_iff_eq.mpr c6
  clear c6
  by_cases c7 : 0 ≤ ((rd_T81 l0 (ji3)).f1)
  rotate_left
  ·rw [if_neg c7] at H
   exact absurd H (by simp)
  rw [if_pos c7] at H
  have c7b0 := eq_true c7
  have c7b1 : decide (0 ≤ ((rd_T81 l0 (ji3)).f1)) = true := decide_eq_true c7
  clear c7
  obtain ⟨ji8, hji8⟩ : ∃ j_ : Int, (shr .i64 a1 ((rd_T81 l0 (ji3)).f1)) = j_ := ⟨_, rfl⟩
  replace H : (some ((Int.tmod (ji8) 2) == 1)) = some r := by first | (rw [hji8] at H; exact H) | (simp only [hji8] at H ⊢; exact H)
  have hji8_ : (a1 / 2 ^ min ((rd_T81 l0 (ji3)).f1).toNat 64) = ji8 := hji8
  have hji8z : ((rd_T81 l0 (ji3)).f1) ≤ 64 → (a1 / 2 ^ ((rd_T81 l0 (ji3)).f1).toNat) = ji8 := shr_small hji8
  obtain rfl := Option.some.inj H
  have p181 : 0 ≤ ((ji3) : Int) := of_decide_eq_true (by assumption)
  have q181 : (ji3) < (l0.length : Int) := of_decide_eq_true (by assumption)
  obtain ⟨ad181, e181, hx181_0, hx181_1⟩ := at_T81 HR0.out (ji3) p181 q181
  cases e181
  replace p181 := eq_true p181
  replace q181 := eq_true q181
  have p182 : 0 ≤ ((ji3) : Int) := of_decide_eq_true (by assumption)
  have q182 : (ji3) < (l0.length : Int) := of_decide_eq_true (by assumption)
  obtain ⟨ad182, e182, hx182_0, hx182_1⟩ := at_T81 HR0.out (ji3) p182 q182
  obtain rfl : ad181 = ad182 := (by injection e182)
  replace p182 := eq_true p182
  replace q182 := eq_true q182
  go_enter Try.func111, Try.ntmps111
  go_wp2
  repeat (go_quiet (fail); try go_wp2)
  go_ret
  exact ⟨by first | rfl | (simp; done) | (simp only [← hji3, ← hji8] <;> (first | rfl | simp)) | (simp [*]; done), by repeat (first | exact Drawn0.refl _ | apply Drawn0.step)⟩
 rw [if_neg c6] at H
 have c6b0 : (((rd_T81 l0 (ji3)).f0) == 0) = false := beq_eq_false_iff_ne.mpr c6
 have c6b1 : (((rd_T81 l0 (ji3)).f0) != 0) = true := bne_iff_ne.mpr c6
 by_cases c9 : ((rd_T81 l0 (ji3)).f0) = 1
 ·rw [if_pos c9] at H
  have c9b0 : (((rd_T81 l0 (ji3)).f0) == 1) = true := beq_iff_eq.mpr c9
  have c9b1 : (((rd_T81 l0 (ji3)).f0) != 1) = false := bne_eq_false_iff_eq.mpr c9
  clear c9
  replace H := Option.bind_eq_some_iff.mp H
  obtain ⟨t183, A100, H⟩ := H
  try dsimp only at H
  have A10 := Aside0.mk A100
  clear A100
  obtain rfl := Option.some.inj H
  have p181 : 0 ≤ ((ji3) : Int) := of_decide_eq_true (by assumption)
  have q181 : (ji3) < (l0.length : Int) := of_decide_eq_true (by assumption)
  obtain ⟨ad181, e181, hx181_0, hx181_1⟩ := at_T81 HR0.out (ji3) p181 q181
  cases e181
  replace p181 := eq_true p181
  replace q181 := eq_true q181
  go_enter Try.func111, Try.ntmps111
  go_wp2_with (first | (go_at_call 91; (with_reducible refine (spec_l1Heads.calls k a1 t183 _ A10.out).mono ?_); rintro e w' ⟨rfl, ⟨nd, rfl⟩⟩; (try first | exact ⟨rfl, _, World.drewN_drewN _ _ _⟩ | exact ⟨rfl, _, Eq.trans (World.drewN_drewN _ _ _) (congrArg (World.drewN _) (Nat.add_assoc _ _ _))⟩); have p184 : 0 ≤ ((ji3) : Int) := of_decide_eq_true (by assumption); have q184 : (ji3) < (l0.length : Int) := of_decide_eq_true (by assumption); obtain ⟨ad184, e184, hx184_0, hx184_1⟩ := at_T81 HR0.out (ji3) p184 q184; obtain rfl : ad181 = ad184 := (by injection e184); replace p184 := eq_true p184; replace q184 := eq_true q184))
  repeat (go_quiet (first | (go_at_call 91; (with_reducible refine (spec_l1Heads.calls k a1 t183 _ A10.out).mono ?_); rintro e w' ⟨rfl, ⟨nd, rfl⟩⟩; (try first | exact ⟨rfl, _, World.drewN_drewN _ _ _⟩ | exact ⟨rfl, _, Eq.trans (World.drewN_drewN _ _ _) (congrArg (World.drewN _) (Nat.add_assoc _ _ _))⟩); have p184 : 0 ≤ ((ji3) : Int) := of_decide_eq_true (by assumption); have q184 : (ji3) < (l0.length : Int) := of_decide_eq_true (by assumption); obtain ⟨ad184, e184, hx184_0, hx184_1⟩ := at_T81 HR0.out (ji3) p184 q184; obtain rfl : ad181 = ad184 := (by injection e184); replace p184 := eq_true p184; replace q184 := eq_true q184)); try go_wp2_with (first | (go_at_call 91; (with_reducible refine (spec_l1Heads.calls k a1 t183 _ A10.out).mono ?_); rintro e w' ⟨rfl, ⟨nd, rfl⟩⟩; (try first | exact ⟨rfl, _, World.drewN_drewN _ _ _⟩ | exact ⟨rfl, _, Eq.trans (World.drewN_drewN _ _ _) (congrArg (World.drewN _) (Nat.add_assoc _ _ _))⟩); have p184 : 0 ≤ ((ji3) : Int) := of_decide_eq_true (by assumption); have q184 : (ji3) < (l0.length : Int) := of_decide_eq_true (by assumption); obtain ⟨ad184, e184, hx184_0, hx184_1⟩ := at_T81 HR0.out (ji3) p184 q184; obtain rfl : ad181 = ad184 := (by injection e184); replace p184 := eq_true p184; replace q184 := eq_true q184)))
  go_ret
  exact ⟨by first | rfl | (simp; done) | (simp only [← hji3] <;> (first | rfl | simp)) | (simp [*]; done), by repeat (first | exact Drawn0.refl _ | apply Drawn0.step)⟩
 rw [if_neg c9] at H
 have c9b0 : (((rd_T81 l0 (ji3)).f0) == 1) = false := beq_eq_false_iff_ne.mpr c9
 have c9b1 : (((rd_T81 l0 (ji3)).f0) != 1) = true := bne_iff_ne.mpr c9
 by_cases c11 : ((rd_T81 l0 (ji3)).f0) = 2
 ·rw [if_pos c11] at H
  have c11b0 : (((rd_T81 l0 (ji3)).f0) == 2) = true := beq_iff_eq.mpr c11
  have c11b1 : (((rd_T81 l0 (ji3)).f0) != 2) = false := bne_eq_false_iff_eq.mpr c11
  clear c11
  have c12b0 := eq_true (of_decide_eq_true (by assumption) : 0 ≤ (ji3))
  by_cases c13 : (ji3) ≤ (l0.length : Int)
  rotate_left
  ·rw [if_neg c13] at H
   exact absurd H (by simp)
  rw [if_pos c13] at H
  have c13b0 := eq_true c13
  have c13b1 : decide ((ji3) ≤ (l0.length : Int)) = true := decide_eq_true c13
  clear c13
  obtain ⟨y185, hy185⟩ : ∃ y_ : List (S81), y_ = (l0.take ((ji3) : Int).toNat) := ⟨_, rfl⟩
  replace H : ((spec_l3Holds.f k y185 a1).bind fun t189 => (some (!t189))) = some r := by first | (rw [hy185]; exact H) | exact H
  have Ny185 := Aside0.mk hy185
  clear hy185
  replace H := Option.bind_eq_some_iff.mp H
  obtain ⟨t189, A140, H⟩ := H
  replace H : (some (!t189)) = some r := H
  have A14 := Aside0.mk A140
  clear A140
  obtain rfl := Option.some.inj H
  have p181 : 0 ≤ ((ji3) : Int) := of_decide_eq_true (by assumption)
  have q181 : (ji3) < (l0.length : Int) := of_decide_eq_true (by assumption)
  obtain ⟨ad181, e181, hx181_0, hx181_1⟩ := at_T81 HR0.out (ji3) p181 q181
  cases e181
  replace p181 := eq_true p181
  replace q181 := eq_true q181
  have q15 : ((ji3) : Int) ≤ ((l0.length : Int) : Int) := of_decide_eq_true (by assumption)
  obtain ⟨i015, hi015, _, hsz15, _⟩ := info_parts info81
  have hroom15 : l0.length ≤ c0 := HC0.out
  have hC15 : Kd.C k81 _ (some ad181) l0.length l0 := HR0.out
  have hcut15 := cut_to (P := Try.prog) 56 81 .i64 Try.underlying56 hi015 (some ad181) l0.length c0 (ji3) (of_decide_eq_true (by assumption)) q15 hroom15
  have hr15 := Kd.C_take (m := ((ji3) : Int).toNat) hC15 (by omega)
  have hy15 : y185.length = ((ji3) : Int).toNat := (by rw [Ny185.out, List.length_take]; omega)
  rw [← Ny185.out] at hr15
  rw [← hy15] at hcut15
  have HR188 := Aside0.mk hr15
  have HC188 := Aside0.mk (show y185.length ≤ c0 from by omega)
  clear hr15 hC15 hroom15 hi015 hsz15
  have KY15 := Aside0.mk hy15
  clear hy15
  replace q15 := eq_true q15
  go_enter Try.func111, Try.ntmps111
  go_wp2_with (first | (go_at_call 111; (with_reducible refine (ih k (by omega) _ _ y185 a1 t189 _ ?side1 ?side2 A14.out).mono ?_); (case side1 => exact Kd.C_below HR188.out lt_); (case side2 => exact HC188.out); rintro e w' ⟨rfl, ⟨nd, rfl⟩⟩; (try first | exact ⟨rfl, _, World.drewN_drewN _ _ _⟩ | exact ⟨rfl, _, Eq.trans (World.drewN_drewN _ _ _) (congrArg (World.drewN _) (Nat.add_assoc _ _ _))⟩)))
  repeat (go_quiet (first | (go_at_call 111; (with_reducible refine (ih k (by omega) _ _ y185 a1 t189 _ ?side1 ?side2 A14.out).mono ?_); (case side1 => exact Kd.C_below HR188.out lt_); (case side2 => exact HC188.out); rintro e w' ⟨rfl, ⟨nd, rfl⟩⟩; (try first | exact ⟨rfl, _, World.drewN_drewN _ _ _⟩ | exact ⟨rfl, _, Eq.trans (World.drewN_drewN _ _ _) (congrArg (World.drewN _) (Nat.add_assoc _ _ _))⟩))); try go_wp2_with (first | (go_at_call 111; (with_reducible refine (ih k (by omega) _ _ y185 a1 t189 _ ?side1 ?side2 A14.out).mono ?_); (case side1 => exact Kd.C_below HR188.out lt_); (case side2 => exact HC188.out); rintro e w' ⟨rfl, ⟨nd, rfl⟩⟩; (try first | exact ⟨rfl, _, World.drewN_drewN _ _ _⟩ | exact ⟨rfl, _, Eq.trans (World.drewN_drewN _ _ _) (congrArg (World.drewN _) (Nat.add_assoc _ _ _))⟩))))
  go_ret
  exact ⟨by first | rfl | (simp; done) | (simp only [← hji3] <;> (first | rfl | simp)) | (simp [*]; done), by repeat (first | exact Drawn0.refl _ | apply Drawn0.step)⟩
 rw [if_neg c11] at H
 have c11b0 : (((rd_T81 l0 (ji3)).f0) == 2) = false := beq_eq_false_iff_ne.mpr c11
 have c11b1 : (((rd_T81 l0 (ji3)).f0) != 2) = true := bne_iff_ne.mpr c11
 replace H := Option.bind_eq_some_iff.mp H
 obtain ⟨t190, A160, H⟩ := H
 try dsimp only at H
 have A16 := Aside0.mk A160
 clear A160
 by_cases c17 : 0 ≤ t190
 rotate_left
 ·rw [if_neg c17] at H
  exact absurd H (by simp)
 rw [if_pos c17] at H
 have c17b0 := eq_true c17
 have c17b1 : decide (0 ≤ t190) = true := decide_eq_true c17
 clear c17
 by_cases c18 : t190 ≤ (l0.length : Int)
 rotate_left
 ·rw [if_neg c18] at H
  exact absurd H (by simp)
 rw [if_pos c18] at H
 have c18b0 := eq_true c18
 have c18b1 : decide (t190 ≤ (l0.length : Int)) = true := decide_eq_true c18
 clear c18
 obtain ⟨y191, hy191⟩ : ∃ y_ : List (S81), y_ = (l0.take (t190 : Int).toNat) := ⟨_, rfl⟩
 replace H : ((spec_l3Holds.f k y191 a1).bind fun t195 => (if t190 ≤ (ji3) then (if (ji3) ≤ (l0.length : Int) then ((spec_l3Holds.f k ((l0.take ((ji3) : Int).toNat).drop (t190 : Int).toNat) a1).bind fun t200 => (if ((rd_T81 l0 (ji3)).f0) = 3 then (if t195 = true then (some t200) else (some false)) else (if ((rd_T81 l0 (ji3)).f0) = 4 then (if t195 = true then (some true) else (some t200)) else (some (t195 == t200))))) else (none)) else (none))) = some r := by first | (rw [hy191]; exact H) | exact H
 have Ny191 := Aside0.mk hy191
 clear hy191
 replace H := Option.bind_eq_some_iff.mp H
 obtain ⟨t195, A190, H⟩ := H
 try dsimp only at H
 have A19 := Aside0.mk A190
 clear A190
 have c20b0 := eq_true (of_decide_eq_true (by assumption) : 0 ≤ t190)
 by_cases c21 : t190 ≤ (ji3)
 rotate_left
 ·rw [if_neg c21] at H
  exact absurd H (by simp)
 rw [if_pos c21] at H
 have c21b0 := eq_true c21
 have c21b1 : decide (t190 ≤ (ji3)) = true := decide_eq_true c21
 clear c21
 by_cases c22 : (ji3) ≤ (l0.length : Int)
 rotate_left
 ·rw [if_neg c22] at H
  exact absurd H (by simp)
 rw [if_pos c22] at H
 have c22b0 := eq_true c22
 have c22b1 : decide ((ji3) ≤ (l0.length : Int)) = true := decide_eq_true c22
 clear c22
 obtain ⟨y196, hy196⟩ : ∃ y_ : List (S81), y_ = ((l0.take ((ji3) : Int).toNat).drop (t190 : Int).toNat) := ⟨_, rfl⟩
 replace H : ((spec_l3Holds.f k y196 a1).bind fun t200 => (if ((rd_T81 l0 (ji3)).f0) = 3 then (if t195 = true then (some t200) else (some false)) else (if ((rd_T81 l0 (ji3)).f0) = 4 then (if t195 = true then (some true) else (some t200)) else (some (t195 == t200))))) = some r := by first | (rw [hy196]; exact H) | exact H
 have Ny196 := Aside0.mk hy196
 clear hy196
 replace H := Option.bind_eq_some_iff.mp H
 obtain ⟨t200, A230, H⟩ := H
 try dsimp only at H
 have A23 := Aside0.mk A230
 clear A230
 by_cases c24 : ((rd_T81 l0 (ji3)).f0) = 3
 ·rw [if_pos c24] at H
  have c24b0 : (((rd_T81 l0 (ji3)).f0) == 3) = true := beq_iff_eq.mpr c24
  have c24b1 : (((rd_T81 l0 (ji3)).f0) != 3) = false := bne_eq_false_iff_eq.mpr c24
  clear c24
  by_cases c25 : t195 = true
  ·subst c25
   rw [if_pos rfl] at H
   obtain rfl := Option.some.inj H
   have p181 : 0 ≤ ((ji3) : Int) := of_decide_eq_true (by assumption)
   have q181 : (ji3) < (l0.length : Int) := of_decide_eq_true (by assumption)
   obtain ⟨ad181, e181, hx181_0, hx181_1⟩ := at_T81 HR0.out (ji3) p181 q181
   cases e181
   replace p181 := eq_true p181
   replace q181 := eq_true q181
   go_enter Try.func111, Try.ntmps111
   go_wp2_with (first | (go_at_call 121; (with_reducible refine (spec_l2Starts.calls k _ _ l0 (wrap64 ((ji3) - 1)) t190 _ ?side1 ?side2 A16.out).mono ?_); (case side1 => exact Kd.C_below HR0.out lt_); (case side2 => exact HC0.out); rintro e w' ⟨rfl, ⟨nd, rfl⟩⟩; (try first | exact ⟨rfl, _, World.drewN_drewN _ _ _⟩ | exact ⟨rfl, _, Eq.trans (World.drewN_drewN _ _ _) (congrArg (World.drewN _) (Nat.add_assoc _ _ _))⟩); have q26 : (t190 : Int) ≤ ((l0.length : Int) : Int) := of_decide_eq_true (by assumption); obtain ⟨i026, hi026, _, hsz26, _⟩ := info_parts info81; have hroom26 : l0.length ≤ c0 := HC0.out; have hC26 : Kd.C k81 _ (some ad181) l0.length l0 := HR0.out; have hcut26 := cut_to (P := Try.prog) 56 81 .i64 Try.underlying56 hi026 (some ad181) l0.length c0 t190 (of_decide_eq_true (by assumption)) q26 hroom26; have hr26 := Kd.C_take (m := (t190 : Int).toNat) hC26 (by omega); have hy26 : y191.length = (t190 : Int).toNat := (by rw [Ny191.out, List.length_take]; omega); rw [← Ny191.out] at hr26; rw [← hy26] at hcut26; have HR194 := Aside0.mk hr26; have HC194 := Aside0.mk (show y191.length ≤ c0 from by omega); clear hr26 hC26 hroom26 hi026 hsz26; have KY26 := Aside0.mk hy26; clear hy26; replace q26 := eq_true q26) | (go_at_call 111; (with_reducible refine (ih k (by omega) _ _ y191 a1 true _ ?side1 ?side2 A19.out).mono ?_); (case side1 => exact Kd.C_below HR194.out lt_); (case side2 => exact HC194.out); rintro e w' ⟨rfl, ⟨nd, rfl⟩⟩; (try first | exact ⟨rfl, _, World.drewN_drewN _ _ _⟩ | exact ⟨rfl, _, Eq.trans (World.drewN_drewN _ _ _) (congrArg (World.drewN _) (Nat.add_assoc _ _ _))⟩); have q27 : ((ji3) : Int) ≤ ((l0.length : Int) : Int) := of_decide_eq_true (by assumption); obtain ⟨i027, hi027, _, hsz27, _⟩ := info_parts info81; have hroom27 : l0.length ≤ c0 := HC0.out; have hC27 : Kd.C k81 _ (some ad181) l0.length l0 := HR0.out; have ql27 : (t190 : Int) ≤ ((ji3) : Int) := of_decide_eq_true (by assumption); have q027 : (0 : Int) ≤ (t190 : Int) := of_decide_eq_true (by assumption); have hcut27 := cut_mid (P := Try.prog) 56 81 .i64 .i64 Try.underlying56 hi027 2 hsz27 (some ad181) l0.length c0 t190 (ji3) q027 ql27 q27 hroom27; have hr27 := Kd.C_mid (lo := (t190 : Int).toNat) (hi := ((ji3) : Int).toNat) (c := c0) hC27 (by omega) (by omega) hroom27; obtain ⟨A27, hA27⟩ : ∃ A1, A1 = (if c0 = (t190 : Int).toNat then (some ad181) else ((some ad181) : Option Addr).map (·.add ((t190 : Int).toNat * 2))) := ⟨_, rfl⟩; obtain ⟨c27, hc27⟩ : ∃ c1, c1 = c0 - (t190 : Int).toNat := ⟨_, rfl⟩; have hy27 : y196.length = ((ji3) : Int).toNat - (t190 : Int).toNat := (by rw [Ny196.out, List.length_drop, List.length_take] <;> omega); rw [show ((l0).take ((ji3) : Int).toNat).drop (t190 : Int).toNat = y196 from Ny196.out.symm] at hr27; replace hr27 : Kd.C k81 _ A27 y196.length y196 := (by rw [hA27]; exact hr27); rw [← hy27, ← hA27, ← hc27] at hcut27; have HR199 := Aside0.mk hr27; have HC199 := Aside0.mk (show y196.length ≤ c27 from by rw [hy27, hc27]; exact Nat.sub_le_sub_right (Nat.le_trans (by omega) hroom27) _); clear hr27 hC27 hroom27 hi027 hsz27 hc27; have KY27 := Aside0.mk hy27; have KA27 := Aside0.mk hA27; clear hy27 hA27; replace q27 := eq_true q27) | (go_at_call 111; (with_reducible refine (ih k (by omega) _ _ y196 a1 t200 _ ?side1 ?side2 A23.out).mono ?_); (case side1 => exact Kd.C_below HR199.out lt_); (case side2 => exact HC199.out); rintro e w' ⟨rfl, ⟨nd, rfl⟩⟩; (try first | exact ⟨rfl, _, World.drewN_drewN _ _ _⟩ | exact ⟨rfl, _, Eq.trans (World.drewN_drewN _ _ _) (congrArg (World.drewN _) (Nat.add_assoc _ _ _))⟩); have p201 : 0 ≤ ((ji3) : Int) := of_decide_eq_true (by assumption); have q201 : (ji3) < (l0.length : Int) := of_decide_eq_true (by assumption); obtain ⟨ad201, e201, hx201_0, hx201_1⟩ := at_T81 HR0.out (ji3) p201 q201; obtain rfl : ad181 = ad201 := (by injection e201); replace p201 := eq_true p201; replace q201 := eq_true q201))
   repeat (go_quiet (first | (go_at_call 121; (with_reducible refine (spec_l2Starts.calls k _ _ l0 (wrap64 ((ji3) - 1)) t190 _ ?side1 ?side2 A16.out).mono ?_); (case side1 => exact Kd.C_below HR0.out lt_); (case side2 => exact HC0.out); rintro e w' ⟨rfl, ⟨nd, rfl⟩⟩; (try first | exact ⟨rfl, _, World.drewN_drewN _ _ _⟩ | exact ⟨rfl, _, Eq.trans (World.drewN_drewN _ _ _) (congrArg (World.drewN _) (Nat.add_assoc _ _ _))⟩); have q26 : (t190 : Int) ≤ ((l0.length : Int) : Int) := of_decide_eq_true (by assumption); obtain ⟨i026, hi026, _, hsz26, _⟩ := info_parts info81; have hroom26 : l0.length ≤ c0 := HC0.out; have hC26 : Kd.C k81 _ (some ad181) l0.length l0 := HR0.out; have hcut26 := cut_to (P := Try.prog) 56 81 .i64 Try.underlying56 hi026 (some ad181) l0.length c0 t190 (of_decide_eq_true (by assumption)) q26 hroom26; have hr26 := Kd.C_take (m := (t190 : Int).toNat) hC26 (by omega); have hy26 : y191.length = (t190 : Int).toNat := (by rw [Ny191.out, List.length_take]; omega); rw [← Ny191.out] at hr26; rw [← hy26] at hcut26; have HR194 := Aside0.mk hr26; have HC194 := Aside0.mk (show y191.length ≤ c0 from by omega); clear hr26 hC26 hroom26 hi026 hsz26; have KY26 := Aside0.mk hy26; clear hy26; replace q26 := eq_true q26) | (go_at_call 111; (with_reducible refine (ih k (by omega) _ _ y191 a1 true _ ?side1 ?side2 A19.out).mono ?_); (case side1 => exact Kd.C_below HR194.out lt_); (case side2 => exact HC194.out); rintro e w' ⟨rfl, ⟨nd, rfl⟩⟩; (try first | exact ⟨rfl, _, World.drewN_drewN _ _ _⟩ | exact ⟨rfl, _, Eq.trans (World.drewN_drewN _ _ _) (congrArg (World.drewN _) (Nat.add_assoc _ _ _))⟩); have q27 : ((ji3) : Int) ≤ ((l0.length : Int) : Int) := of_decide_eq_true (by assumption); obtain ⟨i027, hi027, _, hsz27, _⟩ := info_parts info81; have hroom27 : l0.length ≤ c0 := HC0.out; have hC27 : Kd.C k81 _ (some ad181) l0.length l0 := HR0.out; have ql27 : (t190 : Int) ≤ ((ji3) : Int) := of_decide_eq_true (by assumption); have q027 : (0 : Int) ≤ (t190 : Int) := of_decide_eq_true (by assumption); have hcut27 := cut_mid (P := Try.prog) 56 81 .i64 .i64 Try.underlying56 hi027 2 hsz27 (some ad181) l0.length c0 t190 (ji3) q027 ql27 q27 hroom27; have hr27 := Kd.C_mid (lo := (t190 : Int).toNat) (hi := ((ji3) : Int).toNat) (c := c0) hC27 (by omega) (by omega) hroom27; obtain ⟨A27, hA27⟩ : ∃ A1, A1 = (if c0 = (t190 : Int).toNat then (some ad181) else ((some ad181) : Option Addr).map (·.add ((t190 : Int).toNat * 2))) := ⟨_, rfl⟩; obtain ⟨c27, hc27⟩ : ∃ c1, c1 = c0 - (t190 : Int).toNat := ⟨_, rfl⟩; have hy27 : y196.length = ((ji3) : Int).toNat - (t190 : Int).toNat := (by rw [Ny196.out, List.length_drop, List.length_take] <;> omega); rw [show ((l0).take ((ji3) : Int).toNat).drop (t190 : Int).toNat = y196 from Ny196.out.symm] at hr27; replace hr27 : Kd.C k81 _ A27 y196.length y196 := (by rw [hA27]; exact hr27); rw [← hy27, ← hA27, ← hc27] at hcut27; have HR199 := Aside0.mk hr27; have HC199 := Aside0.mk (show y196.length ≤ c27 from by rw [hy27, hc27]; exact Nat.sub_le_sub_right (Nat.le_trans (by omega) hroom27) _); clear hr27 hC27 hroom27 hi027 hsz27 hc27; have KY27 := Aside0.mk hy27; have KA27 := Aside0.mk hA27; clear hy27 hA27; replace q27 := eq_true q27) | (go_at_call 111; (with_reducible refine (ih k (by omega) _ _ y196 a1 t200 _ ?side1 ?side2 A23.out).mono ?_); (case side1 => exact Kd.C_below HR199.out lt_); (case side2 => exact HC199.out); rintro e w' ⟨rfl, ⟨nd, rfl⟩⟩; (try first | exact ⟨rfl, _, World.drewN_drewN _ _ _⟩ | exact ⟨rfl, _, Eq.trans (World.drewN_drewN _ _ _) (congrArg (World.drewN _) (Nat.add_assoc _ _ _))⟩); have p201 : 0 ≤ ((ji3) : Int) := of_decide_eq_true (by assumption); have q201 : (ji3) < (l0.length : Int) := of_decide_eq_true (by assumption); obtain ⟨ad201, e201, hx201_0, hx201_1⟩ := at_T81 HR0.out (ji3) p201 q201; obtain rfl : ad181 = ad201 := (by injection e201); replace p201 := eq_true p201; replace q201 := eq_true q201)); try go_wp2_with (first | (go_at_call 121; (with_reducible refine (spec_l2Starts.calls k _ _ l0 (wrap64 ((ji3) - 1)) t190 _ ?side1 ?side2 A16.out).mono ?_); (case side1 => exact Kd.C_below HR0.out lt_); (case side2 => exact HC0.out); rintro e w' ⟨rfl, ⟨nd, rfl⟩⟩; (try first | exact ⟨rfl, _, World.drewN_drewN _ _ _⟩ | exact ⟨rfl, _, Eq.trans (World.drewN_drewN _ _ _) (congrArg (World.drewN _) (Nat.add_assoc _ _ _))⟩); have q26 : (t190 : Int) ≤ ((l0.length : Int) : Int) := of_decide_eq_true (by assumption); obtain ⟨i026, hi026, _, hsz26, _⟩ := info_parts info81; have hroom26 : l0.length ≤ c0 := HC0.out; have hC26 : Kd.C k81 _ (some ad181) l0.length l0 := HR0.out; have hcut26 := cut_to (P := Try.prog) 56 81 .i64 Try.underlying56 hi026 (some ad181) l0.length c0 t190 (of_decide_eq_true (by assumption)) q26 hroom26; have hr26 := Kd.C_take (m := (t190 : Int).toNat) hC26 (by omega); have hy26 : y191.length = (t190 : Int).toNat := (by rw [Ny191.out, List.length_take]; omega); rw [← Ny191.out] at hr26; rw [← hy26] at hcut26; have HR194 := Aside0.mk hr26; have HC194 := Aside0.mk (show y191.length ≤ c0 from by omega); clear hr26 hC26 hroom26 hi026 hsz26; have KY26 := Aside0.mk hy26; clear hy26; replace q26 := eq_true q26) | (go_at_call 111; (with_reducible refine (ih k (by omega) _ _ y191 a1 true _ ?side1 ?side2 A19.out).mono ?_); (case side1 => exact Kd.C_below HR194.out lt_); (case side2 => exact HC194.out); rintro e w' ⟨rfl, ⟨nd, rfl⟩⟩; (try first | exact ⟨rfl, _, World.drewN_drewN _ _ _⟩ | exact ⟨rfl, _, Eq.trans (World.drewN_drewN _ _ _) (congrArg (World.drewN _) (Nat.add_assoc _ _ _))⟩); have q27 : ((ji3) : Int) ≤ ((l0.length : Int) : Int) := of_decide_eq_true (by assumption); obtain ⟨i027, hi027, _, hsz27, _⟩ := info_parts info81; have hroom27 : l0.length ≤ c0 := HC0.out; have hC27 : Kd.C k81 _ (some ad181) l0.length l0 := HR0.out; have ql27 : (t190 : Int) ≤ ((ji3) : Int) := of_decide_eq_true (by assumption); have q027 : (0 : Int) ≤ (t190 : Int) := of_decide_eq_true (by assumption); have hcut27 := cut_mid (P := Try.prog) 56 81 .i64 .i64 Try.underlying56 hi027 2 hsz27 (some ad181) l0.length c0 t190 (ji3) q027 ql27 q27 hroom27; have hr27 := Kd.C_mid (lo := (t190 : Int).toNat) (hi := ((ji3) : Int).toNat) (c := c0) hC27 (by omega) (by omega) hroom27; obtain ⟨A27, hA27⟩ : ∃ A1, A1 = (if c0 = (t190 : Int).toNat then (some ad181) else ((some ad181) : Option Addr).map (·.add ((t190 : Int).toNat * 2))) := ⟨_, rfl⟩; obtain ⟨c27, hc27⟩ : ∃ c1, c1 = c0 - (t190 : Int).toNat := ⟨_, rfl⟩; have hy27 : y196.length = ((ji3) : Int).toNat - (t190 : Int).toNat := (by rw [Ny196.out, List.length_drop, List.length_take] <;> omega); rw [show ((l0).take ((ji3) : Int).toNat).drop (t190 : Int).toNat = y196 from Ny196.out.symm] at hr27; replace hr27 : Kd.C k81 _ A27 y196.length y196 := (by rw [hA27]; exact hr27); rw [← hy27, ← hA27, ← hc27] at hcut27; have HR199 := Aside0.mk hr27; have HC199 := Aside0.mk (show y196.length ≤ c27 from by rw [hy27, hc27]; exact Nat.sub_le_sub_right (Nat.le_trans (by omega) hroom27) _); clear hr27 hC27 hroom27 hi027 hsz27 hc27; have KY27 := Aside0.mk hy27; have KA27 := Aside0.mk hA27; clear hy27 hA27; replace q27 := eq_true q27) | (go_at_call 111; (with_reducible refine (ih k (by omega) _ _ y196 a1 t200 _ ?side1 ?side2 A23.out).mono ?_); (case side1 => exact Kd.C_below HR199.out lt_); (case side2 => exact HC199.out); rintro e w' ⟨rfl, ⟨nd, rfl⟩⟩; (try first | exact ⟨rfl, _, World.drewN_drewN _ _ _⟩ | exact ⟨rfl, _, Eq.trans (World.drewN_drewN _ _ _) (congrArg (World.drewN _) (Nat.add_assoc _ _ _))⟩); have p201 : 0 ≤ ((ji3) : Int) := of_decide_eq_true (by assumption); have q201 : (ji3) < (l0.length : Int) := of_decide_eq_true (by assumption); obtain ⟨ad201, e201, hx201_0, hx201_1⟩ := at_T81 HR0.out (ji3) p201 q201; obtain rfl : ad181 = ad201 := (by injection e201); replace p201 := eq_true p201; replace q201 := eq_true q201)))
   go_ret
   exact ⟨by first | rfl | (simp; done) | (simp only [← hji3] <;> (first | rfl | simp)) | (simp [*]; done), by repeat (first | exact Drawn0.refl _ | apply Drawn0.step)⟩
  replace c25 := Bool.eq_false_iff.mpr c25
  subst c25
  rw [if_neg (show ¬ (false = true) by decide)] at H
  obtain rfl := Option.some.inj H
  have p181 : 0 ≤ ((ji3) : Int) := of_decide_eq_true (by assumption)
  have q181 : (ji3) < (l0.length : Int) := of_decide_eq_true (by assumption)
  obtain ⟨ad181, e181, hx181_0, hx181_1⟩ := at_T81 HR0.out (ji3) p181 q181
  cases e181
  replace p181 := eq_true p181
  replace q181 := eq_true q181
  go_enter Try.func111, Try.ntmps111
  go_wp2_with (first | (go_at_call 121; (with_reducible refine (spec_l2Starts.calls k _ _ l0 (wrap64 ((ji3) - 1)) t190 _ ?side1 ?side2 A16.out).mono ?_); (case side1 => exact Kd.C_below HR0.out lt_); (case side2 => exact HC0.out); rintro e w' ⟨rfl, ⟨nd, rfl⟩⟩; (try first | exact ⟨rfl, _, World.drewN_drewN _ _ _⟩ | exact ⟨rfl, _, Eq.trans (World.drewN_drewN _ _ _) (congrArg (World.drewN _) (Nat.add_assoc _ _ _))⟩); have q28 : (t190 : Int) ≤ ((l0.length : Int) : Int) := of_decide_eq_true (by assumption); obtain ⟨i028, hi028, _, hsz28, _⟩ := info_parts info81; have hroom28 : l0.length ≤ c0 := HC0.out; have hC28 : Kd.C k81 _ (some ad181) l0.length l0 := HR0.out; have hcut28 := cut_to (P := Try.prog) 56 81 .i64 Try.underlying56 hi028 (some ad181) l0.length c0 t190 (of_decide_eq_true (by assumption)) q28 hroom28; have hr28 := Kd.C_take (m := (t190 : Int).toNat) hC28 (by omega); have hy28 : y191.length = (t190 : Int).toNat := (by rw [Ny191.out, List.length_take]; omega); rw [← Ny191.out] at hr28; rw [← hy28] at hcut28; have HR194 := Aside0.mk hr28; have HC194 := Aside0.mk (show y191.length ≤ c0 from by omega); clear hr28 hC28 hroom28 hi028 hsz28; have KY28 := Aside0.mk hy28; clear hy28; replace q28 := eq_true q28) | (go_at_call 111; (with_reducible refine (ih k (by omega) _ _ y191 a1 false _ ?side1 ?side2 A19.out).mono ?_); (case side1 => exact Kd.C_below HR194.out lt_); (case side2 => exact HC194.out); rintro e w' ⟨rfl, ⟨nd, rfl⟩⟩; (try first | exact ⟨rfl, _, World.drewN_drewN _ _ _⟩ | exact ⟨rfl, _, Eq.trans (World.drewN_drewN _ _ _) (congrArg (World.drewN _) (Nat.add_assoc _ _ _))⟩); have q29 : ((ji3) : Int) ≤ ((l0.length : Int) : Int) := of_decide_eq_true (by assumption); obtain ⟨i029, hi029, _, hsz29, _⟩ := info_parts info81; have hroom29 : l0.length ≤ c0 := HC0.out; have hC29 : Kd.C k81 _ (some ad181) l0.length l0 := HR0.out; have ql29 : (t190 : Int) ≤ ((ji3) : Int) := of_decide_eq_true (by assumption); have q029 : (0 : Int) ≤ (t190 : Int) := of_decide_eq_true (by assumption); have hcut29 := cut_mid (P := Try.prog) 56 81 .i64 .i64 Try.underlying56 hi029 2 hsz29 (some ad181) l0.length c0 t190 (ji3) q029 ql29 q29 hroom29; have hr29 := Kd.C_mid (lo := (t190 : Int).toNat) (hi := ((ji3) : Int).toNat) (c := c0) hC29 (by omega) (by omega) hroom29; obtain ⟨A29, hA29⟩ : ∃ A1, A1 = (if c0 = (t190 : Int).toNat then (some ad181) else ((some ad181) : Option Addr).map (·.add ((t190 : Int).toNat * 2))) := ⟨_, rfl⟩; obtain ⟨c29, hc29⟩ : ∃ c1, c1 = c0 - (t190 : Int).toNat := ⟨_, rfl⟩; have hy29 : y196.length = ((ji3) : Int).toNat - (t190 : Int).toNat := (by rw [Ny196.out, List.length_drop, List.length_take] <;> omega); rw [show ((l0).take ((ji3) : Int).toNat).drop (t190 : Int).toNat = y196 from Ny196.out.symm] at hr29; replace hr29 : Kd.C k81 _ A29 y196.length y196 := (by rw [hA29]; exact hr29); rw [← hy29, ← hA29, ← hc29] at hcut29; have HR199 := Aside0.mk hr29; have HC199 := Aside0.mk (show y196.length ≤ c29 from by rw [hy29, hc29]; exact Nat.sub_le_sub_right (Nat.le_trans (by omega) hroom29) _); clear hr29 hC29 hroom29 hi029 hsz29 hc29; have KY29 := Aside0.mk hy29; have KA29 := Aside0.mk hA29; clear hy29 hA29; replace q29 := eq_true q29) | (go_at_call 111; (with_reducible refine (ih k (by omega) _ _ y196 a1 t200 _ ?side1 ?side2 A23.out).mono ?_); (case side1 => exact Kd.C_below HR199.out lt_); (case side2 => exact HC199.out); rintro e w' ⟨rfl, ⟨nd, rfl⟩⟩; (try first | exact ⟨rfl, _, World.drewN_drewN _ _ _⟩ | exact ⟨rfl, _, Eq.trans (World.drewN_drewN _ _ _) (congrArg (World.drewN _) (Nat.add_assoc _ _ _))⟩); have p201 : 0 ≤ ((ji3) : Int) := of_decide_eq_true (by assumption); have q201 : (ji3) < (l0.length : Int) := of_decide_eq_true (by assumption); obtain ⟨ad201, e201, hx201_0, hx201_1⟩ := at_T81 HR0.out (ji3) p201 q201; obtain rfl : ad181 = ad201 := (by injection e201); replace p201 := eq_true p201; replace q201 := eq_true q201))
  repeat (go_quiet (first | (go_at_call 121; (with_reducible refine (spec_l2Starts.calls k _ _ l0 (wrap64 ((ji3) - 1)) t190 _ ?side1 ?side2 A16.out).mono ?_); (case side1 => exact Kd.C_below HR0.out lt_); (case side2 => exact HC0.out); rintro e w' ⟨rfl, ⟨nd, rfl⟩⟩; (try first | exact ⟨rfl, _, World.drewN_drewN _ _ _⟩ | exact ⟨rfl, _, Eq.trans (World.drewN_drewN _ _ _) (congrArg (World.drewN _) (Nat.add_assoc _ _ _))⟩); have q28 : (t190 : Int) ≤ ((l0.length : Int) : Int) := of_decide_eq_true (by assumption); obtain ⟨i028, hi028, _, hsz28, _⟩ := info_parts info81; have hroom28 : l0.length ≤ c0 := HC0.out; have hC28 : Kd.C k81 _ (some ad181) l0.length l0 := HR0.out; have hcut28 := cut_to (P := Try.prog) 56 81 .i64 Try.underlying56 hi028 (some ad181) l0.length c0 t190 (of_decide_eq_true (by assumption)) q28 hroom28; have hr28 := Kd.C_take (m := (t190 : Int).toNat) hC28 (by omega); have hy28 : y191.length = (t190 : Int).toNat := (by rw [Ny191.out, List.length_take]; omega); rw [← Ny191.out] at hr28; rw [← hy28] at hcut28; have HR194 := Aside0.mk hr28; have HC194 := Aside0.mk (show y191.length ≤ c0 from by omega); clear hr28 hC28 hroom28 hi028 hsz28; have KY28 := Aside0.mk hy28; clear hy28; replace q28 := eq_true q28) | (go_at_call 111; (with_reducible refine (ih k (by omega) _ _ y191 a1 false _ ?side1 ?side2 A19.out).mono ?_); (case side1 => exact Kd.C_below HR194.out lt_); (case side2 => exact HC194.out); rintro e w' ⟨rfl, ⟨nd, rfl⟩⟩; (try first | exact ⟨rfl, _, World.drewN_drewN _ _ _⟩ | exact ⟨rfl, _, Eq.trans (World.drewN_drewN _ _ _) (congrArg (World.drewN _) (Nat.add_assoc _ _ _))⟩); have q29 : ((ji3) : Int) ≤ ((l0.length : Int) : Int) := of_decide_eq_true (by assumption); obtain ⟨i029, hi029, _, hsz29, _⟩ := info_parts info81; have hroom29 : l0.length ≤ c0 := HC0.out; have hC29 : Kd.C k81 _ (some ad181) l0.length l0 := HR0.out; have ql29 : (t190 : Int) ≤ ((ji3) : Int) := of_decide_eq_true (by assumption); have q029 : (0 : Int) ≤ (t190 : Int) := of_decide_eq_true (by assumption); have hcut29 := cut_mid (P := Try.prog) 56 81 .i64 .i64 Try.underlying56 hi029 2 hsz29 (some ad181) l0.length c0 t190 (ji3) q029 ql29 q29 hroom29; have hr29 := Kd.C_mid (lo := (t190 : Int).toNat) (hi := ((ji3) : Int).toNat) (c := c0) hC29 (by omega) (by omega) hroom29; obtain ⟨A29, hA29⟩ : ∃ A1, A1 = (if c0 = (t190 : Int).toNat then (some ad181) else ((some ad181) : Option Addr).map (·.add ((t190 : Int).toNat * 2))) := ⟨_, rfl⟩; obtain ⟨c29, hc29⟩ : ∃ c1, c1 = c0 - (t190 : Int).toNat := ⟨_, rfl⟩; have hy29 : y196.length = ((ji3) : Int).toNat - (t190 : Int).toNat := (by rw [Ny196.out, List.length_drop, List.length_take] <;> omega); rw [show ((l0).take ((ji3) : Int).toNat).drop (t190 : Int).toNat = y196 from Ny196.out.symm] at hr29; replace hr29 : Kd.C k81 _ A29 y196.length y196 := (by rw [hA29]; exact hr29); rw [← hy29, ← hA29, ← hc29] at hcut29; have HR199 := Aside0.mk hr29; have HC199 := Aside0.mk (show y196.length ≤ c29 from by rw [hy29, hc29]; exact Nat.sub_le_sub_right (Nat.le_trans (by omega) hroom29) _); clear hr29 hC29 hroom29 hi029 hsz29 hc29; have KY29 := Aside0.mk hy29; have KA29 := Aside0.mk hA29; clear hy29 hA29; replace q29 := eq_true q29) | (go_at_call 111; (with_reducible refine (ih k (by omega) _ _ y196 a1 t200 _ ?side1 ?side2 A23.out).mono ?_); (case side1 => exact Kd.C_below HR199.out lt_); (case side2 => exact HC199.out); rintro e w' ⟨rfl, ⟨nd, rfl⟩⟩; (try first | exact ⟨rfl, _, World.drewN_drewN _ _ _⟩ | exact ⟨rfl, _, Eq.trans (World.drewN_drewN _ _ _) (congrArg (World.drewN _) (Nat.add_assoc _ _ _))⟩); have p201 : 0 ≤ ((ji3) : Int) := of_decide_eq_true (by assumption); have q201 : (ji3) < (l0.length : Int) := of_decide_eq_true (by assumption); obtain ⟨ad201, e201, hx201_0, hx201_1⟩ := at_T81 HR0.out (ji3) p201 q201; obtain rfl : ad181 = ad201 := (by injection e201); replace p201 := eq_true p201; replace q201 := eq_true q201)); try go_wp2_with (first | (go_at_call 121; (with_reducible refine (spec_l2Starts.calls k _ _ l0 (wrap64 ((ji3) - 1)) t190 _ ?side1 ?side2 A16.out).mono ?_); (case side1 => exact Kd.C_below HR0.out lt_); (case side2 => exact HC0.out); rintro e w' ⟨rfl, ⟨nd, rfl⟩⟩; (try first | exact ⟨rfl, _, World.drewN_drewN _ _ _⟩ | exact ⟨rfl, _, Eq.trans (World.drewN_drewN _ _ _) (congrArg (World.drewN _) (Nat.add_assoc _ _ _))⟩); have q28 : (t190 : Int) ≤ ((l0.length : Int) : Int) := of_decide_eq_true (by assumption); obtain ⟨i028, hi028, _, hsz28, _⟩ := info_parts info81; have hroom28 : l0.length ≤ c0 := HC0.out; have hC28 : Kd.C k81 _ (some ad181) l0.length l0 := HR0.out; have hcut28 := cut_to (P := Try.prog) 56 81 .i64 Try.underlying56 hi028 (some ad181) l0.length c0 t190 (of_decide_eq_true (by assumption)) q28 hroom28; have hr28 := Kd.C_take (m := (t190 : Int).toNat) hC28 (by omega); have hy28 : y191.length = (t190 : Int).toNat := (by rw [Ny191.out, List.length_take]; omega); rw [← Ny191.out] at hr28; rw [← hy28] at hcut28; have HR194 := Aside0.mk hr28; have HC194 := Aside0.mk (show y191.length ≤ c0 from by omega); clear hr28 hC28 hroom28 hi028 hsz28; have KY28 := Aside0.mk hy28; clear hy28; replace q28 := eq_true q28) | (go_at_call 111; (with_reducible refine (ih k (by omega) _ _ y191 a1 false _ ?side1 ?side2 A19.out).mono ?_); (case side1 => exact Kd.C_below HR194.out lt_); (case side2 => exact HC194.out); rintro e w' ⟨rfl, ⟨nd, rfl⟩⟩; (try first | exact ⟨rfl, _, World.drewN_drewN _ _ _⟩ | exact ⟨rfl, _, Eq.trans (World.drewN_drewN _ _ _) (congrArg (World.drewN _) (Nat.add_assoc _ _ _))⟩); have q29 : ((ji3) : Int) ≤ ((l0.length : Int) : Int) := of_decide_eq_true (by assumption); obtain ⟨i029, hi029, _, hsz29, _⟩ := info_parts info81; have hroom29 : l0.length ≤ c0 := HC0.out; have hC29 : Kd.C k81 _ (some ad181) l0.length l0 := HR0.out; have ql29 : (t190 : Int) ≤ ((ji3) : Int) := of_decide_eq_true (by assumption); have q029 : (0 : Int) ≤ (t190 : Int) := of_decide_eq_true (by assumption); have hcut29 := cut_mid (P := Try.prog) 56 81 .i64 .i64 Try.underlying56 hi029 2 hsz29 (some ad181) l0.length c0 t190 (ji3) q029 ql29 q29 hroom29; have hr29 := Kd.C_mid (lo := (t190 : Int).toNat) (hi := ((ji3) : Int).toNat) (c := c0) hC29 (by omega) (by omega) hroom29; obtain ⟨A29, hA29⟩ : ∃ A1, A1 = (if c0 = (t190 : Int).toNat then (some ad181) else ((some ad181) : Option Addr).map (·.add ((t190 : Int).toNat * 2))) := ⟨_, rfl⟩; obtain ⟨c29, hc29⟩ : ∃ c1, c1 = c0 - (t190 : Int).toNat := ⟨_, rfl⟩; have hy29 : y196.length = ((ji3) : Int).toNat - (t190 : Int).toNat := (by rw [Ny196.out, List.length_drop, List.length_take] <;> omega); rw [show ((l0).take ((ji3) : Int).toNat).drop (t190 : Int).toNat = y196 from Ny196.out.symm] at hr29; replace hr29 : Kd.C k81 _ A29 y196.length y196 := (by rw [hA29]; exact hr29); rw [← hy29, ← hA29, ← hc29] at hcut29; have HR199 := Aside0.mk hr29; have HC199 := Aside0.mk (show y196.length ≤ c29 from by rw [hy29, hc29]; exact Nat.sub_le_sub_right (Nat.le_trans (by omega) hroom29) _); clear hr29 hC29 hroom29 hi029 hsz29 hc29; have KY29 := Aside0.mk hy29; have KA29 := Aside0.mk hA29; clear hy29 hA29; replace q29 := eq_true q29) | (go_at_call 111; (with_reducible refine (ih k (by omega) _ _ y196 a1 t200 _ ?side1 ?side2 A23.out).mono ?_); (case side1 => exact Kd.C_below HR199.out lt_); (case side2 => exact HC199.out); rintro e w' ⟨rfl, ⟨nd, rfl⟩⟩; (try first | exact ⟨rfl, _, World.drewN_drewN _ _ _⟩ | exact ⟨rfl, _, Eq.trans (World.drewN_drewN _ _ _) (congrArg (World.drewN _) (Nat.add_assoc _ _ _))⟩); have p201 : 0 ≤ ((ji3) : Int) := of_decide_eq_true (by assumption); have q201 : (ji3) < (l0.length : Int) := of_decide_eq_true (by assumption); obtain ⟨ad201, e201, hx201_0, hx201_1⟩ := at_T81 HR0.out (ji3) p201 q201; obtain rfl : ad181 = ad201 := (by injection e201); replace p201 := eq_true p201; replace q201 := eq_true q201)))
  go_ret
  exact ⟨by first | rfl | (simp; done) | (simp only [← hji3] <;> (first | rfl | simp)) | (simp [*]; done), by repeat (first | exact Drawn0.refl _ | apply Drawn0.step)⟩
 rw [if_neg c24] at H
 have c24b0 : (((rd_T81 l0 (ji3)).f0) == 3) = false := beq_eq_false_iff_ne.mpr c24
 have c24b1 : (((rd_T81 l0 (ji3)).f0) != 3) = true := bne_iff_ne.mpr c24
 by_cases c30 : ((rd_T81 l0 (ji3)).f0) = 4
 rotate_left
 ·rw [if_neg c30] at H
  have c30b0 : (((rd_T81 l0 (ji3)).f0) == 4) = false := beq_eq_false_iff_ne.mpr c30
  have c30b1 : (((rd_T81 l0 (ji3)).f0) != 4) = true := bne_iff_ne.mpr c30
  obtain rfl := Option.some.inj H
  have p181 : 0 ≤ ((ji3) : Int) := of_decide_eq_true (by assumption)
  have q181 : (ji3) < (l0.length : Int) := of_decide_eq_true (by assumption)
  obtain ⟨ad181, e181, hx181_0, hx181_1⟩ := at_T81 HR0.out (ji3) p181 q181
  cases e181
  replace p181 := eq_true p181
  replace q181 := eq_true q181
  go_enter Try.func111, Try.ntmps111
  go_wp2_with (first | (go_at_call 121; (with_reducible refine (spec_l2Starts.calls k _ _ l0 (wrap64 ((ji3) - 1)) t190 _ ?side1 ?side2 A16.out).mono ?_); (case side1 => exact Kd.C_below HR0.out lt_); (case side2 => exact HC0.out); rintro e w' ⟨rfl, ⟨nd, rfl⟩⟩; (try first | exact ⟨rfl, _, World.drewN_drewN _ _ _⟩ | exact ⟨rfl, _, Eq.trans (World.drewN_drewN _ _ _) (congrArg (World.drewN _) (Nat.add_assoc _ _ _))⟩); have q36 : (t190 : Int) ≤ ((l0.length : Int) : Int) := of_decide_eq_true (by assumption); obtain ⟨i036, hi036, _, hsz36, _⟩ := info_parts info81; have hroom36 : l0.length ≤ c0 := HC0.out; have hC36 : Kd.C k81 _ (some ad181) l0.length l0 := HR0.out; have hcut36 := cut_to (P := Try.prog) 56 81 .i64 Try.underlying56 hi036 (some ad181) l0.length c0 t190 (of_decide_eq_true (by assumption)) q36 hroom36; have hr36 := Kd.C_take (m := (t190 : Int).toNat) hC36 (by omega); have hy36 : y191.length = (t190 : Int).toNat := (by rw [Ny191.out, List.length_take]; omega); rw [← Ny191.out] at hr36; rw [← hy36] at hcut36; have HR194 := Aside0.mk hr36; have HC194 := Aside0.mk (show y191.length ≤ c0 from by omega); clear hr36 hC36 hroom36 hi036 hsz36; have KY36 := Aside0.mk hy36; clear hy36; replace q36 := eq_true q36) | (go_at_call 111; (with_reducible refine (ih k (by omega) _ _ y191 a1 t195 _ ?side1 ?side2 A19.out).mono ?_); (case side1 => exact Kd.C_below HR194.out lt_); (case side2 => exact HC194.out); rintro e w' ⟨rfl, ⟨nd, rfl⟩⟩; (try first | exact ⟨rfl, _, World.drewN_drewN _ _ _⟩ | exact ⟨rfl, _, Eq.trans (World.drewN_drewN _ _ _) (congrArg (World.drewN _) (Nat.add_assoc _ _ _))⟩); have q37 : ((ji3) : Int) ≤ ((l0.length : Int) : Int) := of_decide_eq_true (by assumption); obtain ⟨i037, hi037, _, hsz37, _⟩ := info_parts info81; have hroom37 : l0.length ≤ c0 := HC0.out; have hC37 : Kd.C k81 _ (some ad181) l0.length l0 := HR0.out; have ql37 : (t190 : Int) ≤ ((ji3) : Int) := of_decide_eq_true (by assumption); have q037 : (0 : Int) ≤ (t190 : Int) := of_decide_eq_true (by assumption); have hcut37 := cut_mid (P := Try.prog) 56 81 .i64 .i64 Try.underlying56 hi037 2 hsz37 (some ad181) l0.length c0 t190 (ji3) q037 ql37 q37 hroom37; have hr37 := Kd.C_mid (lo := (t190 : Int).toNat) (hi := ((ji3) : Int).toNat) (c := c0) hC37 (by omega) (by omega) hroom37; obtain ⟨A37, hA37⟩ : ∃ A1, A1 = (if c0 = (t190 : Int).toNat then (some ad181) else ((some ad181) : Option Addr).map (·.add ((t190 : Int).toNat * 2))) := ⟨_, rfl⟩; obtain ⟨c37, hc37⟩ : ∃ c1, c1 = c0 - (t190 : Int).toNat := ⟨_, rfl⟩; have hy37 : y196.length = ((ji3) : Int).toNat - (t190 : Int).toNat := (by rw [Ny196.out, List.length_drop, List.length_take] <;> omega); rw [show ((l0).take ((ji3) : Int).toNat).drop (t190 : Int).toNat = y196 from Ny196.out.symm] at hr37; replace hr37 : Kd.C k81 _ A37 y196.length y196 := (by rw [hA37]; exact hr37); rw [← hy37, ← hA37, ← hc37] at hcut37; have HR199 := Aside0.mk hr37; have HC199 := Aside0.mk (show y196.length ≤ c37 from by rw [hy37, hc37]; exact Nat.sub_le_sub_right (Nat.le_trans (by omega) hroom37) _); clear hr37 hC37 hroom37 hi037 hsz37 hc37; have KY37 := Aside0.mk hy37; have KA37 := Aside0.mk hA37; clear hy37 hA37; replace q37 := eq_true q37) | (go_at_call 111; (with_reducible refine (ih k (by omega) _ _ y196 a1 t200 _ ?side1 ?side2 A23.out).mono ?_); (case side1 => exact Kd.C_below HR199.out lt_); (case side2 => exact HC199.out); rintro e w' ⟨rfl, ⟨nd, rfl⟩⟩; (try first | exact ⟨rfl, _, World.drewN_drewN _ _ _⟩ | exact ⟨rfl, _, Eq.trans (World.drewN_drewN _ _ _) (congrArg (World.drewN _) (Nat.add_assoc _ _ _))⟩); have p201 : 0 ≤ ((ji3) : Int) := of_decide_eq_true (by assumption); have q201 : (ji3) < (l0.length : Int) := of_decide_eq_true (by assumption); obtain ⟨ad201, e201, hx201_0, hx201_1⟩ := at_T81 HR0.out (ji3) p201 q201; obtain rfl : ad181 = ad201 := (by injection e201); replace p201 := eq_true p201; replace q201 := eq_true q201))
  repeat (go_quiet (first | (go_at_call 121; (with_reducible refine (spec_l2Starts.calls k _ _ l0 (wrap64 ((ji3) - 1)) t190 _ ?side1 ?side2 A16.out).mono ?_); (case side1 => exact Kd.C_below HR0.out lt_); (case side2 => exact HC0.out); rintro e w' ⟨rfl, ⟨nd, rfl⟩⟩; (try first | exact ⟨rfl, _, World.drewN_drewN _ _ _⟩ | exact ⟨rfl, _, Eq.trans (World.drewN_drewN _ _ _) (congrArg (World.drewN _) (Nat.add_assoc _ _ _))⟩); have q36 : (t190 : Int) ≤ ((l0.length : Int) : Int) := of_decide_eq_true (by assumption); obtain ⟨i036, hi036, _, hsz36, _⟩ := info_parts info81; have hroom36 : l0.length ≤ c0 := HC0.out; have hC36 : Kd.C k81 _ (some ad181) l0.length l0 := HR0.out; have hcut36 := cut_to (P := Try.prog) 56 81 .i64 Try.underlying56 hi036 (some ad181) l0.length c0 t190 (of_decide_eq_true (by assumption)) q36 hroom36; have hr36 := Kd.C_take (m := (t190 : Int).toNat) hC36 (by omega); have hy36 : y191.length = (t190 : Int).toNat := (by rw [Ny191.out, List.length_take]; omega); rw [← Ny191.out] at hr36; rw [← hy36] at hcut36; have HR194 := Aside0.mk hr36; have HC194 := Aside0.mk (show y191.length ≤ c0 from by omega); clear hr36 hC36 hroom36 hi036 hsz36; have KY36 := Aside0.mk hy36; clear hy36; replace q36 := eq_true q36) | (go_at_call 111; (with_reducible refine (ih k (by omega) _ _ y191 a1 t195 _ ?side1 ?side2 A19.out).mono ?_); (case side1 => exact Kd.C_below HR194.out lt_); (case side2 => exact HC194.out); rintro e w' ⟨rfl, ⟨nd, rfl⟩⟩; (try first | exact ⟨rfl, _, World.drewN_drewN _ _ _⟩ | exact ⟨rfl, _, Eq.trans (World.drewN_drewN _ _ _) (congrArg (World.drewN _) (Nat.add_assoc _ _ _))⟩); have q37 : ((ji3) : Int) ≤ ((l0.length : Int) : Int) := of_decide_eq_true (by assumption); obtain ⟨i037, hi037, _, hsz37, _⟩ := info_parts info81; have hroom37 : l0.length ≤ c0 := HC0.out; have hC37 : Kd.C k81 _ (some ad181) l0.length l0 := HR0.out; have ql37 : (t190 : Int) ≤ ((ji3) : Int) := of_decide_eq_true (by assumption); have q037 : (0 : Int) ≤ (t190 : Int) := of_decide_eq_true (by assumption); have hcut37 := cut_mid (P := Try.prog) 56 81 .i64 .i64 Try.underlying56 hi037 2 hsz37 (some ad181) l0.length c0 t190 (ji3) q037 ql37 q37 hroom37; have hr37 := Kd.C_mid (lo := (t190 : Int).toNat) (hi := ((ji3) : Int).toNat) (c := c0) hC37 (by omega) (by omega) hroom37; obtain ⟨A37, hA37⟩ : ∃ A1, A1 = (if c0 = (t190 : Int).toNat then (some ad181) else ((some ad181) : Option Addr).map (·.add ((t190 : Int).toNat * 2))) := ⟨_, rfl⟩; obtain ⟨c37, hc37⟩ : ∃ c1, c1 = c0 - (t190 : Int).toNat := ⟨_, rfl⟩; have hy37 : y196.length = ((ji3) : Int).toNat - (t190 : Int).toNat := (by rw [Ny196.out, List.length_drop, List.length_take] <;> omega); rw [show ((l0).take ((ji3) : Int).toNat).drop (t190 : Int).toNat = y196 from Ny196.out.symm] at hr37; replace hr37 : Kd.C k81 _ A37 y196.length y196 := (by rw [hA37]; exact hr37); rw [← hy37, ← hA37, ← hc37] at hcut37; have HR199 := Aside0.mk hr37; have HC199 := Aside0.mk (show y196.length ≤ c37 from by rw [hy37, hc37]; exact Nat.sub_le_sub_right (Nat.le_trans (by omega) hroom37) _); clear hr37 hC37 hroom37 hi037 hsz37 hc37; have KY37 := Aside0.mk hy37; have KA37 := Aside0.mk hA37; clear hy37 hA37; replace q37 := eq_true q37) | (go_at_call 111; (with_reducible refine (ih k (by omega) _ _ y196 a1 t200 _ ?side1 ?side2 A23.out).mono ?_); (case side1 => exact Kd.C_below HR199.out lt_); (case side2 => exact HC199.out); rintro e w' ⟨rfl, ⟨nd, rfl⟩⟩; (try first | exact ⟨rfl, _, World.drewN_drewN _ _ _⟩ | exact ⟨rfl, _, Eq.trans (World.drewN_drewN _ _ _) (congrArg (World.drewN _) (Nat.add_assoc _ _ _))⟩); have p201 : 0 ≤ ((ji3) : Int) := of_decide_eq_true (by assumption); have q201 : (ji3) < (l0.length : Int) := of_decide_eq_true (by assumption); obtain ⟨ad201, e201, hx201_0, hx201_1⟩ := at_T81 HR0.out (ji3) p201 q201; obtain rfl : ad181 = ad201 := (by injection e201); replace p201 := eq_true p201; replace q201 := eq_true q201)); try go_wp2_with (first | (go_at_call 121; (with_reducible refine (spec_l2Starts.calls k _ _ l0 (wrap64 ((ji3) - 1)) t190 _ ?side1 ?side2 A16.out).mono ?_); (case side1 => exact Kd.C_below HR0.out lt_); (case side2 => exact HC0.out); rintro e w' ⟨rfl, ⟨nd, rfl⟩⟩; (try first | exact ⟨rfl, _, World.drewN_drewN _ _ _⟩ | exact ⟨rfl, _, Eq.trans (World.drewN_drewN _ _ _) (congrArg (World.drewN _) (Nat.add_assoc _ _ _))⟩); have q36 : (t190 : Int) ≤ ((l0.length : Int) : Int) := of_decide_eq_true (by assumption); obtain ⟨i036, hi036, _, hsz36, _⟩ := info_parts info81; have hroom36 : l0.length ≤ c0 := HC0.out; have hC36 : Kd.C k81 _ (some ad181) l0.length l0 := HR0.out; have hcut36 := cut_to (P := Try.prog) 56 81 .i64 Try.underlying56 hi036 (some ad181) l0.length c0 t190 (of_decide_eq_true (by assumption)) q36 hroom36; have hr36 := Kd.C_take (m := (t190 : Int).toNat) hC36 (by omega); have hy36 : y191.length = (t190 : Int).toNat := (by rw [Ny191.out, List.length_take]; omega); rw [← Ny191.out] at hr36; rw [← hy36] at hcut36; have HR194 := Aside0.mk hr36; have HC194 := Aside0.mk (show y191.length ≤ c0 from by omega); clear hr36 hC36 hroom36 hi036 hsz36; have KY36 := Aside0.mk hy36; clear hy36; replace q36 := eq_true q36) | (go_at_call 111; (with_reducible refine (ih k (by omega) _ _ y191 a1 t195 _ ?side1 ?side2 A19.out).mono ?_); (case side1 => exact Kd.C_below HR194.out lt_); (case side2 => exact HC194.out); rintro e w' ⟨rfl, ⟨nd, rfl⟩⟩; (try first | exact ⟨rfl, _, World.drewN_drewN _ _ _⟩ | exact ⟨rfl, _, Eq.trans (World.drewN_drewN _ _ _) (congrArg (World.drewN _) (Nat.add_assoc _ _ _))⟩); have q37 : ((ji3) : Int) ≤ ((l0.length : Int) : Int) := of_decide_eq_true (by assumption); obtain ⟨i037, hi037, _, hsz37, _⟩ := info_parts info81; have hroom37 : l0.length ≤ c0 := HC0.out; have hC37 : Kd.C k81 _ (some ad181) l0.length l0 := HR0.out; have ql37 : (t190 : Int) ≤ ((ji3) : Int) := of_decide_eq_true (by assumption); have q037 : (0 : Int) ≤ (t190 : Int) := of_decide_eq_true (by assumption); have hcut37 := cut_mid (P := Try.prog) 56 81 .i64 .i64 Try.underlying56 hi037 2 hsz37 (some ad181) l0.length c0 t190 (ji3) q037 ql37 q37 hroom37; have hr37 := Kd.C_mid (lo := (t190 : Int).toNat) (hi := ((ji3) : Int).toNat) (c := c0) hC37 (by omega) (by omega) hroom37; obtain ⟨A37, hA37⟩ : ∃ A1, A1 = (if c0 = (t190 : Int).toNat then (some ad181) else ((some ad181) : Option Addr).map (·.add ((t190 : Int).toNat * 2))) := ⟨_, rfl⟩; obtain ⟨c37, hc37⟩ : ∃ c1, c1 = c0 - (t190 : Int).toNat := ⟨_, rfl⟩; have hy37 : y196.length = ((ji3) : Int).toNat - (t190 : Int).toNat := (by rw [Ny196.out, List.length_drop, List.length_take] <;> omega); rw [show ((l0).take ((ji3) : Int).toNat).drop (t190 : Int).toNat = y196 from Ny196.out.symm] at hr37; replace hr37 : Kd.C k81 _ A37 y196.length y196 := (by rw [hA37]; exact hr37); rw [← hy37, ← hA37, ← hc37] at hcut37; have HR199 := Aside0.mk hr37; have HC199 := Aside0.mk (show y196.length ≤ c37 from by rw [hy37, hc37]; exact Nat.sub_le_sub_right (Nat.le_trans (by omega) hroom37) _); clear hr37 hC37 hroom37 hi037 hsz37 hc37; have KY37 := Aside0.mk hy37; have KA37 := Aside0.mk hA37; clear hy37 hA37; replace q37 := eq_true q37) | (go_at_call 111; (with_reducible refine (ih k (by omega) _ _ y196 a1 t200 _ ?side1 ?side2 A23.out).mono ?_); (case side1 => exact Kd.C_below HR199.out lt_); (case side2 => exact HC199.out); rintro e w' ⟨rfl, ⟨nd, rfl⟩⟩; (try first | exact ⟨rfl, _, World.drewN_drewN _ _ _⟩ | exact ⟨rfl, _, Eq.trans (World.drewN_drewN _ _ _) (congrArg (World.drewN _) (Nat.add_assoc _ _ _))⟩); have p201 : 0 ≤ ((ji3) : Int) := of_decide_eq_true (by assumption); have q201 : (ji3) < (l0.length : Int) := of_decide_eq_true (by assumption); obtain ⟨ad201, e201, hx201_0, hx201_1⟩ := at_T81 HR0.out (ji3) p201 q201; obtain rfl : ad181 = ad201 := (by injection e201); replace p201 := eq_true p201; replace q201 := eq_true q201)))
  go_ret
  exact ⟨by first | rfl | (simp; done) | (simp only [← hji3] <;> (first | rfl | simp)) | (simp [*]; done), by repeat (first | exact Drawn0.refl _ | apply Drawn0.step)⟩
 rw [if_pos c30] at H
 have c30b0 : (((rd_T81 l0 (ji3)).f0) == 4) = true := beq_iff_eq.mpr c30
 have c30b1 : (((rd_T81 l0 (ji3)).f0) != 4) = false := bne_eq_false_iff_eq.mpr c30
 clear c30
 by_cases c31 : t195 = true
 ·subst c31
  rw [if_pos rfl] at H
  obtain rfl := Option.some.inj H
  have p181 : 0 ≤ ((ji3) : Int) := of_decide_eq_true (by assumption)
  have q181 : (ji3) < (l0.length : Int) := of_decide_eq_true (by assumption)
  obtain ⟨ad181, e181, hx181_0, hx181_1⟩ := at_T81 HR0.out (ji3) p181 q181
  cases e181
  replace p181 := eq_true p181
  replace q181 := eq_true q181
  go_enter Try.func111, Try.ntmps111
  go_wp2_with (first | (go_at_call 121; (with_reducible refine (spec_l2Starts.calls k _ _ l0 (wrap64 ((ji3) - 1)) t190 _ ?side1 ?side2 A16.out).mono ?_); (case side1 => exact Kd.C_below HR0.out lt_); (case side2 => exact HC0.out); rintro e w' ⟨rfl, ⟨nd, rfl⟩⟩; (try first | exact ⟨rfl, _, World.drewN_drewN _ _ _⟩ | exact ⟨rfl, _, Eq.trans (World.drewN_drewN _ _ _) (congrArg (World.drewN _) (Nat.add_assoc _ _ _))⟩); have q32 : (t190 : Int) ≤ ((l0.length : Int) : Int) := of_decide_eq_true (by assumption); obtain ⟨i032, hi032, _, hsz32, _⟩ := info_parts info81; have hroom32 : l0.length ≤ c0 := HC0.out; have hC32 : Kd.C k81 _ (some ad181) l0.length l0 := HR0.out; have hcut32 := cut_to (P := Try.prog) 56 81 .i64 Try.underlying56 hi032 (some ad181) l0.length c0 t190 (of_decide_eq_true (by assumption)) q32 hroom32; have hr32 := Kd.C_take (m := (t190 : Int).toNat) hC32 (by omega); have hy32 : y191.length = (t190 : Int).toNat := (by rw [Ny191.out, List.length_take]; omega); rw [← Ny191.out] at hr32; rw [← hy32] at hcut32; have HR194 := Aside0.mk hr32; have HC194 := Aside0.mk (show y191.length ≤ c0 from by omega); clear hr32 hC32 hroom32 hi032 hsz32; have KY32 := Aside0.mk hy32; clear hy32; replace q32 := eq_true q32) | (go_at_call 111; (with_reducible refine (ih k (by omega) _ _ y191 a1 true _ ?side1 ?side2 A19.out).mono ?_); (case side1 => exact Kd.C_below HR194.out lt_); (case side2 => exact HC194.out); rintro e w' ⟨rfl, ⟨nd, rfl⟩⟩; (try first | exact ⟨rfl, _, World.drewN_drewN _ _ _⟩ | exact ⟨rfl, _, Eq.trans (World.drewN_drewN _ _ _) (congrArg (World.drewN _) (Nat.add_assoc _ _ _))⟩); have q33 : ((ji3) : Int) ≤ ((l0.length : Int) : Int) := of_decide_eq_true (by assumption); obtain ⟨i033, hi033, _, hsz33, _⟩ := info_parts info81; have hroom33 : l0.length ≤ c0 := HC0.out; have hC33 : Kd.C k81 _ (some ad181) l0.length l0 := HR0.out; have ql33 : (t190 : Int) ≤ ((ji3) : Int) := of_decide_eq_true (by assumption); have q033 : (0 : Int) ≤ (t190 : Int) := of_decide_eq_true (by assumption); have hcut33 := cut_mid (P := Try.prog) 56 81 .i64 .i64 Try.underlying56 hi033 2 hsz33 (some ad181) l0.length c0 t190 (ji3) q033 ql33 q33 hroom33; have hr33 := Kd.C_mid (lo := (t190 : Int).toNat) (hi := ((ji3) : Int).toNat) (c := c0) hC33 (by omega) (by omega) hroom33; obtain ⟨A33, hA33⟩ : ∃ A1, A1 = (if c0 = (t190 : Int).toNat then (some ad181) else ((some ad181) : Option Addr).map (·.add ((t190 : Int).toNat * 2))) := ⟨_, rfl⟩; obtain ⟨c33, hc33⟩ : ∃ c1, c1 = c0 - (t190 : Int).toNat := ⟨_, rfl⟩; have hy33 : y196.length = ((ji3) : Int).toNat - (t190 : Int).toNat := (by rw [Ny196.out, List.length_drop, List.length_take] <;> omega); rw [show ((l0).take ((ji3) : Int).toNat).drop (t190 : Int).toNat = y196 from Ny196.out.symm] at hr33; replace hr33 : Kd.C k81 _ A33 y196.length y196 := (by rw [hA33]; exact hr33); rw [← hy33, ← hA33, ← hc33] at hcut33; have HR199 := Aside0.mk hr33; have HC199 := Aside0.mk (show y196.length ≤ c33 from by rw [hy33, hc33]; exact Nat.sub_le_sub_right (Nat.le_trans (by omega) hroom33) _); clear hr33 hC33 hroom33 hi033 hsz33 hc33; have KY33 := Aside0.mk hy33; have KA33 := Aside0.mk hA33; clear hy33 hA33; replace q33 := eq_true q33) | (go_at_call 111; (with_reducible refine (ih k (by omega) _ _ y196 a1 t200 _ ?side1 ?side2 A23.out).mono ?_); (case side1 => exact Kd.C_below HR199.out lt_); (case side2 => exact HC199.out); rintro e w' ⟨rfl, ⟨nd, rfl⟩⟩; (try first | exact ⟨rfl, _, World.drewN_drewN _ _ _⟩ | exact ⟨rfl, _, Eq.trans (World.drewN_drewN _ _ _) (congrArg (World.drewN _) (Nat.add_assoc _ _ _))⟩); have p201 : 0 ≤ ((ji3) : Int) := of_decide_eq_true (by assumption); have q201 : (ji3) < (l0.length : Int) := of_decide_eq_true (by assumption); obtain ⟨ad201, e201, hx201_0, hx201_1⟩ := at_T81 HR0.out (ji3) p201 q201; obtain rfl : ad181 = ad201 := (by injection e201); replace p201 := eq_true p201; replace q201 := eq_true q201))
  repeat (go_quiet (first | (go_at_call 121; (with_reducible refine (spec_l2Starts.calls k _ _ l0 (wrap64 ((ji3) - 1)) t190 _ ?side1 ?side2 A16.out).mono ?_); (case side1 => exact Kd.C_below HR0.out lt_); (case side2 => exact HC0.out); rintro e w' ⟨rfl, ⟨nd, rfl⟩⟩; (try first | exact ⟨rfl, _, World.drewN_drewN _ _ _⟩ | exact ⟨rfl, _, Eq.trans (World.drewN_drewN _ _ _) (congrArg (World.drewN _) (Nat.add_assoc _ _ _))⟩); have q32 : (t190 : Int) ≤ ((l0.length : Int) : Int) := of_decide_eq_true (by assumption); obtain ⟨i032, hi032, _, hsz32, _⟩ := info_parts info81; have hroom32 : l0.length ≤ c0 := HC0.out; have hC32 : Kd.C k81 _ (some ad181) l0.length l0 := HR0.out; have hcut32 := cut_to (P := Try.prog) 56 81 .i64 Try.underlying56 hi032 (some ad181) l0.length c0 t190 (of_decide_eq_true (by assumption)) q32 hroom32; have hr32 := Kd.C_take (m := (t190 : Int).toNat) hC32 (by omega); have hy32 : y191.length = (t190 : Int).toNat := (by rw [Ny191.out, List.length_take]; omega); rw [← Ny191.out] at hr32; rw [← hy32] at hcut32; have HR194 := Aside0.mk hr32; have HC194 := Aside0.mk (show y191.length ≤ c0 from by omega); clear hr32 hC32 hroom32 hi032 hsz32; have KY32 := Aside0.mk hy32; clear hy32; replace q32 := eq_true q32) | (go_at_call 111; (with_reducible refine (ih k (by omega) _ _ y191 a1 true _ ?side1 ?side2 A19.out).mono ?_); (case side1 => exact Kd.C_below HR194.out lt_); (case side2 => exact HC194.out); rintro e w' ⟨rfl, ⟨nd, rfl⟩⟩; (try first | exact ⟨rfl, _, World.drewN_drewN _ _ _⟩ | exact ⟨rfl, _, Eq.trans (World.drewN_drewN _ _ _) (congrArg (World.drewN _) (Nat.add_assoc _ _ _))⟩); have q33 : ((ji3) : Int) ≤ ((l0.length : Int) : Int) := of_decide_eq_true (by assumption); obtain ⟨i033, hi033, _, hsz33, _⟩ := info_parts info81; have hroom33 : l0.length ≤ c0 := HC0.out; have hC33 : Kd.C k81 _ (some ad181) l0.length l0 := HR0.out; have ql33 : (t190 : Int) ≤ ((ji3) : Int) := of_decide_eq_true (by assumption); have q033 : (0 : Int) ≤ (t190 : Int) := of_decide_eq_true (by assumption); have hcut33 := cut_mid (P := Try.prog) 56 81 .i64 .i64 Try.underlying56 hi033 2 hsz33 (some ad181) l0.length c0 t190 (ji3) q033 ql33 q33 hroom33; have hr33 := Kd.C_mid (lo := (t190 : Int).toNat) (hi := ((ji3) : Int).toNat) (c := c0) hC33 (by omega) (by omega) hroom33; obtain ⟨A33, hA33⟩ : ∃ A1, A1 = (if c0 = (t190 : Int).toNat then (some ad181) else ((some ad181) : Option Addr).map (·.add ((t190 : Int).toNat * 2))) := ⟨_, rfl⟩; obtain ⟨c33, hc33⟩ : ∃ c1, c1 = c0 - (t190 : Int).toNat := ⟨_, rfl⟩; have hy33 : y196.length = ((ji3) : Int).toNat - (t190 : Int).toNat := (by rw [Ny196.out, List.length_drop, List.length_take] <;> omega); rw [show ((l0).take ((ji3) : Int).toNat).drop (t190 : Int).toNat = y196 from Ny196.out.symm] at hr33; replace hr33 : Kd.C k81 _ A33 y196.length y196 := (by rw [hA33]; exact hr33); rw [← hy33, ← hA33, ← hc33] at hcut33; have HR199 := Aside0.mk hr33; have HC199 := Aside0.mk (show y196.length ≤ c33 from by rw [hy33, hc33]; exact Nat.sub_le_sub_right (Nat.le_trans (by omega) hroom33) _); clear hr33 hC33 hroom33 hi033 hsz33 hc33; have KY33 := Aside0.mk hy33; have KA33 := Aside0.mk hA33; clear hy33 hA33; replace q33 := eq_true q33) | (go_at_call 111; (with_reducible refine (ih k (by omega) _ _ y196 a1 t200 _ ?side1 ?side2 A23.out).mono ?_); (case side1 => exact Kd.C_below HR199.out lt_); (case side2 => exact HC199.out); rintro e w' ⟨rfl, ⟨nd, rfl⟩⟩; (try first | exact ⟨rfl, _, World.drewN_drewN _ _ _⟩ | exact ⟨rfl, _, Eq.trans (World.drewN_drewN _ _ _) (congrArg (World.drewN _) (Nat.add_assoc _ _ _))⟩); have p201 : 0 ≤ ((ji3) : Int) := of_decide_eq_true (by assumption); have q201 : (ji3) < (l0.length : Int) := of_decide_eq_true (by assumption); obtain ⟨ad201, e201, hx201_0, hx201_1⟩ := at_T81 HR0.out (ji3) p201 q201; obtain rfl : ad181 = ad201 := (by injection e201); replace p201 := eq_true p201; replace q201 := eq_true q201)); try go_wp2_with (first | (go_at_call 121; (with_reducible refine (spec_l2Starts.calls k _ _ l0 (wrap64 ((ji3) - 1)) t190 _ ?side1 ?side2 A16.out).mono ?_); (case side1 => exact Kd.C_below HR0.out lt_); (case side2 => exact HC0.out); rintro e w' ⟨rfl, ⟨nd, rfl⟩⟩; (try first | exact ⟨rfl, _, World.drewN_drewN _ _ _⟩ | exact ⟨rfl, _, Eq.trans (World.drewN_drewN _ _ _) (congrArg (World.drewN _) (Nat.add_assoc _ _ _))⟩); have q32 : (t190 : Int) ≤ ((l0.length : Int) : Int) := of_decide_eq_true (by assumption); obtain ⟨i032, hi032, _, hsz32, _⟩ := info_parts info81; have hroom32 : l0.length ≤ c0 := HC0.out; have hC32 : Kd.C k81 _ (some ad181) l0.length l0 := HR0.out; have hcut32 := cut_to (P := Try.prog) 56 81 .i64 Try.underlying56 hi032 (some ad181) l0.length c0 t190 (of_decide_eq_true (by assumption)) q32 hroom32; have hr32 := Kd.C_take (m := (t190 : Int).toNat) hC32 (by omega); have hy32 : y191.length = (t190 : Int).toNat := (by rw [Ny191.out, List.length_take]; omega); rw [← Ny191.out] at hr32; rw [← hy32] at hcut32; have HR194 := Aside0.mk hr32; have HC194 := Aside0.mk (show y191.length ≤ c0 from by omega); clear hr32 hC32 hroom32 hi032 hsz32; have KY32 := Aside0.mk hy32; clear hy32; replace q32 := eq_true q32) | (go_at_call 111; (with_reducible refine (ih k (by omega) _ _ y191 a1 true _ ?side1 ?side2 A19.out).mono ?_); (case side1 => exact Kd.C_below HR194.out lt_); (case side2 => exact HC194.out); rintro e w' ⟨rfl, ⟨nd, rfl⟩⟩; (try first | exact ⟨rfl, _, World.drewN_drewN _ _ _⟩ | exact ⟨rfl, _, Eq.trans (World.drewN_drewN _ _ _) (congrArg (World.drewN _) (Nat.add_assoc _ _ _))⟩); have q33 : ((ji3) : Int) ≤ ((l0.length : Int) : Int) := of_decide_eq_true (by assumption); obtain ⟨i033, hi033, _, hsz33, _⟩ := info_parts info81; have hroom33 : l0.length ≤ c0 := HC0.out; have hC33 : Kd.C k81 _ (some ad181) l0.length l0 := HR0.out; have ql33 : (t190 : Int) ≤ ((ji3) : Int) := of_decide_eq_true (by assumption); have q033 : (0 : Int) ≤ (t190 : Int) := of_decide_eq_true (by assumption); have hcut33 := cut_mid (P := Try.prog) 56 81 .i64 .i64 Try.underlying56 hi033 2 hsz33 (some ad181) l0.length c0 t190 (ji3) q033 ql33 q33 hroom33; have hr33 := Kd.C_mid (lo := (t190 : Int).toNat) (hi := ((ji3) : Int).toNat) (c := c0) hC33 (by omega) (by omega) hroom33; obtain ⟨A33, hA33⟩ : ∃ A1, A1 = (if c0 = (t190 : Int).toNat then (some ad181) else ((some ad181) : Option Addr).map (·.add ((t190 : Int).toNat * 2))) := ⟨_, rfl⟩; obtain ⟨c33, hc33⟩ : ∃ c1, c1 = c0 - (t190 : Int).toNat := ⟨_, rfl⟩; have hy33 : y196.length = ((ji3) : Int).toNat - (t190 : Int).toNat := (by rw [Ny196.out, List.length_drop, List.length_take] <;> omega); rw [show ((l0).take ((ji3) : Int).toNat).drop (t190 : Int).toNat = y196 from Ny196.out.symm] at hr33; replace hr33 : Kd.C k81 _ A33 y196.length y196 := (by rw [hA33]; exact hr33); rw [← hy33, ← hA33, ← hc33] at hcut33; have HR199 := Aside0.mk hr33; have HC199 := Aside0.mk (show y196.length ≤ c33 from by rw [hy33, hc33]; exact Nat.sub_le_sub_right (Nat.le_trans (by omega) hroom33) _); clear hr33 hC33 hroom33 hi033 hsz33 hc33; have KY33 := Aside0.mk hy33; have KA33 := Aside0.mk hA33; clear hy33 hA33; replace q33 := eq_true q33) | (go_at_call 111; (with_reducible refine (ih k (by omega) _ _ y196 a1 t200 _ ?side1 ?side2 A23.out).mono ?_); (case side1 => exact Kd.C_below HR199.out lt_); (case side2 => exact HC199.out); rintro e w' ⟨rfl, ⟨nd, rfl⟩⟩; (try first | exact ⟨rfl, _, World.drewN_drewN _ _ _⟩ | exact ⟨rfl, _, Eq.trans (World.drewN_drewN _ _ _) (congrArg (World.drewN _) (Nat.add_assoc _ _ _))⟩); have p201 : 0 ≤ ((ji3) : Int) := of_decide_eq_true (by assumption); have q201 : (ji3) < (l0.length : Int) := of_decide_eq_true (by assumption); obtain ⟨ad201, e201, hx201_0, hx201_1⟩ := at_T81 HR0.out (ji3) p201 q201; obtain rfl : ad181 = ad201 := (by injection e201); replace p201 := eq_true p201; replace q201 := eq_true q201)))
  go_ret
  exact ⟨by first | rfl | (simp; done) | (simp only [← hji3] <;> (first | rfl | simp)) | (simp [*]; done), by repeat (first | exact Drawn0.refl _ | apply Drawn0.step)⟩
 replace c31 := Bool.eq_false_iff.mpr c31
 subst c31
 rw [if_neg (show ¬ (false = true) by decide)] at H
 obtain rfl := Option.some.inj H
 have p181 : 0 ≤ ((ji3) : Int) := of_decide_eq_true (by assumption)
 have q181 : (ji3) < (l0.length : Int) := of_decide_eq_true (by assumption)
 obtain ⟨ad181, e181, hx181_0, hx181_1⟩ := at_T81 HR0.out (ji3) p181 q181
 cases e181
 replace p181 := eq_true p181
 replace q181 := eq_true q181
 go_enter Try.func111, Try.ntmps111
 go_wp2_with (first | (go_at_call 121; (with_reducible refine (spec_l2Starts.calls k _ _ l0 (wrap64 ((ji3) - 1)) t190 _ ?side1 ?side2 A16.out).mono ?_); (case side1 => exact Kd.C_below HR0.out lt_); (case side2 => exact HC0.out); rintro e w' ⟨rfl, ⟨nd, rfl⟩⟩; (try first | exact ⟨rfl, _, World.drewN_drewN _ _ _⟩ | exact ⟨rfl, _, Eq.trans (World.drewN_drewN _ _ _) (congrArg (World.drewN _) (Nat.add_assoc _ _ _))⟩); have q34 : (t190 : Int) ≤ ((l0.length : Int) : Int) := of_decide_eq_true (by assumption); obtain ⟨i034, hi034, _, hsz34, _⟩ := info_parts info81; have hroom34 : l0.length ≤ c0 := HC0.out; have hC34 : Kd.C k81 _ (some ad181) l0.length l0 := HR0.out; have hcut34 := cut_to (P := Try.prog) 56 81 .i64 Try.underlying56 hi034 (some ad181) l0.length c0 t190 (of_decide_eq_true (by assumption)) q34 hroom34; have hr34 := Kd.C_take (m := (t190 : Int).toNat) hC34 (by omega); have hy34 : y191.length = (t190 : Int).toNat := (by rw [Ny191.out, List.length_take]; omega); rw [← Ny191.out] at hr34; rw [← hy34] at hcut34; have HR194 := Aside0.mk hr34; have HC194 := Aside0.mk (show y191.length ≤ c0 from by omega); clear hr34 hC34 hroom34 hi034 hsz34; have KY34 := Aside0.mk hy34; clear hy34; replace q34 := eq_true q34) | (go_at_call 111; (with_reducible refine (ih k (by omega) _ _ y191 a1 false _ ?side1 ?side2 A19.out).mono ?_); (case side1 => exact Kd.C_below HR194.out lt_); (case side2 => exact HC194.out); rintro e w' ⟨rfl, ⟨nd, rfl⟩⟩; (try first | exact ⟨rfl, _, World.drewN_drewN _ _ _⟩ | exact ⟨rfl, _, Eq.trans (World.drewN_drewN _ _ _) (congrArg (World.drewN _) (Nat.add_assoc _ _ _))⟩); have q35 : ((ji3) : Int) ≤ ((l0.length : Int) : Int) := of_decide_eq_true (by assumption); obtain ⟨i035, hi035, _, hsz35, _⟩ := info_parts info81; have hroom35 : l0.length ≤ c0 := HC0.out; have hC35 : Kd.C k81 _ (some ad181) l0.length l0 := HR0.out; have ql35 : (t190 : Int) ≤ ((ji3) : Int) := of_decide_eq_true (by assumption); have q035 : (0 : Int) ≤ (t190 : Int) := of_decide_eq_true (by assumption); have hcut35 := cut_mid (P := Try.prog) 56 81 .i64 .i64 Try.underlying56 hi035 2 hsz35 (some ad181) l0.length c0 t190 (ji3) q035 ql35 q35 hroom35; have hr35 := Kd.C_mid (lo := (t190 : Int).toNat) (hi := ((ji3) : Int).toNat) (c := c0) hC35 (by omega) (by omega) hroom35; obtain ⟨A35, hA35⟩ : ∃ A1, A1 = (if c0 = (t190 : Int).toNat then (some ad181) else ((some ad181) : Option Addr).map (·.add ((t190 : Int).toNat * 2))) := ⟨_, rfl⟩; obtain ⟨c35, hc35⟩ : ∃ c1, c1 = c0 - (t190 : Int).toNat := ⟨_, rfl⟩; have hy35 : y196.length = ((ji3) : Int).toNat - (t190 : Int).toNat := (by rw [Ny196.out, List.length_drop, List.length_take] <;> omega); rw [show ((l0).take ((ji3) : Int).toNat).drop (t190 : Int).toNat = y196 from Ny196.out.symm] at hr35; replace hr35 : Kd.C k81 _ A35 y196.length y196 := (by rw [hA35]; exact hr35); rw [← hy35, ← hA35, ← hc35] at hcut35; have HR199 := Aside0.mk hr35; have HC199 := Aside0.mk (show y196.length ≤ c35 from by rw [hy35, hc35]; exact Nat.sub_le_sub_right (Nat.le_trans (by omega) hroom35) _); clear hr35 hC35 hroom35 hi035 hsz35 hc35; have KY35 := Aside0.mk hy35; have KA35 := Aside0.mk hA35; clear hy35 hA35; replace q35 := eq_true q35) | (go_at_call 111; (with_reducible refine (ih k (by omega) _ _ y196 a1 t200 _ ?side1 ?side2 A23.out).mono ?_); (case side1 => exact Kd.C_below HR199.out lt_); (case side2 => exact HC199.out); rintro e w' ⟨rfl, ⟨nd, rfl⟩⟩; (try first | exact ⟨rfl, _, World.drewN_drewN _ _ _⟩ | exact ⟨rfl, _, Eq.trans (World.drewN_drewN _ _ _) (congrArg (World.drewN _) (Nat.add_assoc _ _ _))⟩); have p201 : 0 ≤ ((ji3) : Int) := of_decide_eq_true (by assumption); have q201 : (ji3) < (l0.length : Int) := of_decide_eq_true (by assumption); obtain ⟨ad201, e201, hx201_0, hx201_1⟩ := at_T81 HR0.out (ji3) p201 q201; obtain rfl : ad181 = ad201 := (by injection e201); replace p201 := eq_true p201; replace q201 := eq_true q201))
 repeat (go_quiet (first | (go_at_call 121; (with_reducible refine (spec_l2Starts.calls k _ _ l0 (wrap64 ((ji3) - 1)) t190 _ ?side1 ?side2 A16.out).mono ?_); (case side1 => exact Kd.C_below HR0.out lt_); (case side2 => exact HC0.out); rintro e w' ⟨rfl, ⟨nd, rfl⟩⟩; (try first | exact ⟨rfl, _, World.drewN_drewN _ _ _⟩ | exact ⟨rfl, _, Eq.trans (World.drewN_drewN _ _ _) (congrArg (World.drewN _) (Nat.add_assoc _ _ _))⟩); have q34 : (t190 : Int) ≤ ((l0.length : Int) : Int) := of_decide_eq_true (by assumption); obtain ⟨i034, hi034, _, hsz34, _⟩ := info_parts info81; have hroom34 : l0.length ≤ c0 := HC0.out; have hC34 : Kd.C k81 _ (some ad181) l0.length l0 := HR0.out; have hcut34 := cut_to (P := Try.prog) 56 81 .i64 Try.underlying56 hi034 (some ad181) l0.length c0 t190 (of_decide_eq_true (by assumption)) q34 hroom34; have hr34 := Kd.C_take (m := (t190 : Int).toNat) hC34 (by omega); have hy34 : y191.length = (t190 : Int).toNat := (by rw [Ny191.out, List.length_take]; omega); rw [← Ny191.out] at hr34; rw [← hy34] at hcut34; have HR194 := Aside0.mk hr34; have HC194 := Aside0.mk (show y191.length ≤ c0 from by omega); clear hr34 hC34 hroom34 hi034 hsz34; have KY34 := Aside0.mk hy34; clear hy34; replace q34 := eq_true q34) | (go_at_call 111; (with_reducible refine (ih k (by omega) _ _ y191 a1 false _ ?side1 ?side2 A19.out).mono ?_); (case side1 => exact Kd.C_below HR194.out lt_); (case side2 => exact HC194.out); rintro e w' ⟨rfl, ⟨nd, rfl⟩⟩; (try first | exact ⟨rfl, _, World.drewN_drewN _ _ _⟩ | exact ⟨rfl, _, Eq.trans (World.drewN_drewN _ _ _) (congrArg (World.drewN _) (Nat.add_assoc _ _ _))⟩); have q35 : ((ji3) : Int) ≤ ((l0.length : Int) : Int) := of_decide_eq_true (by assumption); obtain ⟨i035, hi035, _, hsz35, _⟩ := info_parts info81; have hroom35 : l0.length ≤ c0 := HC0.out; have hC35 : Kd.C k81 _ (some ad181) l0.length l0 := HR0.out; have ql35 : (t190 : Int) ≤ ((ji3) : Int) := of_decide_eq_true (by assumption); have q035 : (0 : Int) ≤ (t190 : Int) := of_decide_eq_true (by assumption); have hcut35 := cut_mid (P := Try.prog) 56 81 .i64 .i64 Try.underlying56 hi035 2 hsz35 (some ad181) l0.length c0 t190 (ji3) q035 ql35 q35 hroom35; have hr35 := Kd.C_mid (lo := (t190 : Int).toNat) (hi := ((ji3) : Int).toNat) (c := c0) hC35 (by omega) (by omega) hroom35; obtain ⟨A35, hA35⟩ : ∃ A1, A1 = (if c0 = (t190 : Int).toNat then (some ad181) else ((some ad181) : Option Addr).map (·.add ((t190 : Int).toNat * 2))) := ⟨_, rfl⟩; obtain ⟨c35, hc35⟩ : ∃ c1, c1 = c0 - (t190 : Int).toNat := ⟨_, rfl⟩; have hy35 : y196.length = ((ji3) : Int).toNat - (t190 : Int).toNat := (by rw [Ny196.out, List.length_drop, List.length_take] <;> omega); rw [show ((l0).take ((ji3) : Int).toNat).drop (t190 : Int).toNat = y196 from Ny196.out.symm] at hr35; replace hr35 : Kd.C k81 _ A35 y196.length y196 := (by rw [hA35]; exact hr35); rw [← hy35, ← hA35, ← hc35] at hcut35; have HR199 := Aside0.mk hr35; have HC199 := Aside0.mk (show y196.length ≤ c35 from by rw [hy35, hc35]; exact Nat.sub_le_sub_right (Nat.le_trans (by omega) hroom35) _); clear hr35 hC35 hroom35 hi035 hsz35 hc35; have KY35 := Aside0.mk hy35; have KA35 := Aside0.mk hA35; clear hy35 hA35; replace q35 := eq_true q35) | (go_at_call 111; (with_reducible refine (ih k (by omega) _ _ y196 a1 t200 _ ?side1 ?side2 A23.out).mono ?_); (case side1 => exact Kd.C_below HR199.out lt_); (case side2 => exact HC199.out); rintro e w' ⟨rfl, ⟨nd, rfl⟩⟩; (try first | exact ⟨rfl, _, World.drewN_drewN _ _ _⟩ | exact ⟨rfl, _, Eq.trans (World.drewN_drewN _ _ _) (congrArg (World.drewN _) (Nat.add_assoc _ _ _))⟩); have p201 : 0 ≤ ((ji3) : Int) := of_decide_eq_true (by assumption); have q201 : (ji3) < (l0.length : Int) := of_decide_eq_true (by assumption); obtain ⟨ad201, e201, hx201_0, hx201_1⟩ := at_T81 HR0.out (ji3) p201 q201; obtain rfl : ad181 = ad201 := (by injection e201); replace p201 := eq_true p201; replace q201 := eq_true q201)); try go_wp2_with (first | (go_at_call 121; (with_reducible refine (spec_l2Starts.calls k _ _ l0 (wrap64 ((ji3) - 1)) t190 _ ?side1 ?side2 A16.out).mono ?_); (case side1 => exact Kd.C_below HR0.out lt_); (case side2 => exact HC0.out); rintro e w' ⟨rfl, ⟨nd, rfl⟩⟩; (try first | exact ⟨rfl, _, World.drewN_drewN _ _ _⟩ | exact ⟨rfl, _, Eq.trans (World.drewN_drewN _ _ _) (congrArg (World.drewN _) (Nat.add_assoc _ _ _))⟩); have q34 : (t190 : Int) ≤ ((l0.length : Int) : Int) := of_decide_eq_true (by assumption); obtain ⟨i034, hi034, _, hsz34, _⟩ := info_parts info81; have hroom34 : l0.length ≤ c0 := HC0.out; have hC34 : Kd.C k81 _ (some ad181) l0.length l0 := HR0.out; have hcut34 := cut_to (P := Try.prog) 56 81 .i64 Try.underlying56 hi034 (some ad181) l0.length c0 t190 (of_decide_eq_true (by assumption)) q34 hroom34; have hr34 := Kd.C_take (m := (t190 : Int).toNat) hC34 (by omega); have hy34 : y191.length = (t190 : Int).toNat := (by rw [Ny191.out, List.length_take]; omega); rw [← Ny191.out] at hr34; rw [← hy34] at hcut34; have HR194 := Aside0.mk hr34; have HC194 := Aside0.mk (show y191.length ≤ c0 from by omega); clear hr34 hC34 hroom34 hi034 hsz34; have KY34 := Aside0.mk hy34; clear hy34; replace q34 := eq_true q34) | (go_at_call 111; (with_reducible refine (ih k (by omega) _ _ y191 a1 false _ ?side1 ?side2 A19.out).mono ?_); (case side1 => exact Kd.C_below HR194.out lt_); (case side2 => exact HC194.out); rintro e w' ⟨rfl, ⟨nd, rfl⟩⟩; (try first | exact ⟨rfl, _, World.drewN_drewN _ _ _⟩ | exact ⟨rfl, _, Eq.trans (World.drewN_drewN _ _ _) (congrArg (World.drewN _) (Nat.add_assoc _ _ _))⟩); have q35 : ((ji3) : Int) ≤ ((l0.length : Int) : Int) := of_decide_eq_true (by assumption); obtain ⟨i035, hi035, _, hsz35, _⟩ := info_parts info81; have hroom35 : l0.length ≤ c0 := HC0.out; have hC35 : Kd.C k81 _ (some ad181) l0.length l0 := HR0.out; have ql35 : (t190 : Int) ≤ ((ji3) : Int) := of_decide_eq_true (by assumption); have q035 : (0 : Int) ≤ (t190 : Int) := of_decide_eq_true (by assumption); have hcut35 := cut_mid (P := Try.prog) 56 81 .i64 .i64 Try.underlying56 hi035 2 hsz35 (some ad181) l0.length c0 t190 (ji3) q035 ql35 q35 hroom35; have hr35 := Kd.C_mid (lo := (t190 : Int).toNat) (hi := ((ji3) : Int).toNat) (c := c0) hC35 (by omega) (by omega) hroom35; obtain ⟨A35, hA35⟩ : ∃ A1, A1 = (if c0 = (t190 : Int).toNat then (some ad181) else ((some ad181) : Option Addr).map (·.add ((t190 : Int).toNat * 2))) := ⟨_, rfl⟩; obtain ⟨c35, hc35⟩ : ∃ c1, c1 = c0 - (t190 : Int).toNat := ⟨_, rfl⟩; have hy35 : y196.length = ((ji3) : Int).toNat - (t190 : Int).toNat := (by rw [Ny196.out, List.length_drop, List.length_take] <;> omega); rw [show ((l0).take ((ji3) : Int).toNat).drop (t190 : Int).toNat = y196 from Ny196.out.symm] at hr35; replace hr35 : Kd.C k81 _ A35 y196.length y196 := (by rw [hA35]; exact hr35); rw [← hy35, ← hA35, ← hc35] at hcut35; have HR199 := Aside0.mk hr35; have HC199 := Aside0.mk (show y196.length ≤ c35 from by rw [hy35, hc35]; exact Nat.sub_le_sub_right (Nat.le_trans (by omega) hroom35) _); clear hr35 hC35 hroom35 hi035 hsz35 hc35; have KY35 := Aside0.mk hy35; have KA35 := Aside0.mk hA35; clear hy35 hA35; replace q35 := eq_true q35) | (go_at_call 111; (with_reducible refine (ih k (by omega) _ _ y196 a1 t200 _ ?side1 ?side2 A23.out).mono ?_); (case side1 => exact Kd.C_below HR199.out lt_); (case side2 => exact HC199.out); rintro e w' ⟨rfl, ⟨nd, rfl⟩⟩; (try first | exact ⟨rfl, _, World.drewN_drewN _ _ _⟩ | exact ⟨rfl, _, Eq.trans (World.drewN_drewN _ _ _) (congrArg (World.drewN _) (Nat.add_assoc _ _ _))⟩); have p201 : 0 ≤ ((ji3) : Int) := of_decide_eq_true (by assumption); have q201 : (ji3) < (l0.length : Int) := of_decide_eq_true (by assumption); obtain ⟨ad201, e201, hx201_0, hx201_1⟩ := at_T81 HR0.out (ji3) p201 q201; obtain rfl : ad181 = ad201 := (by injection e201); replace p201 := eq_true p201; replace q201 := eq_true q201)))
 go_ret
 exact ⟨by first | rfl | (simp; done) | (simp only [← hji3] <;> (first | rfl | simp)) | (simp [*]; done), by repeat (first | exact Drawn0.refl _ | apply Drawn0.step)⟩

/-! ### spec_l4May: function 101 -/
def spec_l4May.f (k : Nat) (a0_0 : Int) (l0_1 : List (S81)) (a1 : Int) : Option (Bool) := if 0 ≤ a0_0 then ((spec_l3Holds.f k l0_1 a1).bind fun t203 => (some (((Int.tmod (shr .i64 a1 a0_0) 2) == 1) == t203))) else (none)
theorem spec_l4May.mono : ∀ a0 a1 a2 k, LeO (spec_l4May.f k a0 a1 a2) (spec_l4May.f (k + 1) a0 a1 a2) := by
 intro a0 a1 a2 k
 unfold spec_l4May.f
 repeat' first
   | (with_reducible exact spec_l3Holds.mono _ _ _)
   | (with_reducible exact LeO.refl _)
   | (with_reducible exact LeO.none _)
   | (with_reducible refine LeO.ite ?_ ?_)
   | (with_reducible refine LeO.bind ?_ (fun _ => ?_))
   | exact spec_l3Holds.mono _ _ _
   | exact LeO.none _
   | refine LeO.ite ?_ ?_
   | refine LeO.bind ?_ (fun _ => ?_)
set_option maxHeartbeats 8000000 in
set_option maxRecDepth 100000 in
theorem spec_l4May.calls (k : Nat) (a0_0 : Int) (A0_1 : Option Addr) (c0_1 : Nat) (l0_1 : List (S81)) (a1 : Int) (r : Bool) (w : World) (hr0_1 : Kd.C k81 w A0_1 l0_1.length l0_1) (hc0_1 : l0_1.length ≤ c0_1) (h : spec_l4May.f k a0_0 l0_1 a1 = some r) :
  Calls Try.prog 101 #[.agg #[.int .i64 a0_0, .slice A0_1 l0_1.length c0_1], .int .i64 a1] w fun e w' => e = .returned (.bool r) ∧ Below w.heap.size w w' := by
 have hu83 := Try.underlying83
 have HR0_1 := Aside0.mk hr0_1
 have HC0_1 := Aside0.mk hc0_1
 clear hr0_1 hc0_1
 have HB := Aside0.mk (Below.refl w.heap.size w)
 have H : (if 0 ≤ a0_0 then ((spec_l3Holds.f k l0_1 a1).bind fun t203 => (some (((Int.tmod (shr .i64 a1 a0_0) 2) == 1) == t203))) else (none)) = some r := h
 clear h
 by_cases c3 : 0 ≤ a0_0
 rotate_left
 ·rw [if_neg c3] at H
  exact absurd H (by simp)
 rw [if_pos c3] at H
 have c3b0 := eq_true c3
 have c3b1 : decide (0 ≤ a0_0) = true := decide_eq_true c3
 clear c3
 obtain ⟨ji4, hji4⟩ : ∃ j_ : Int, (shr .i64 a1 a0_0) = j_ := ⟨_, rfl⟩
 replace H : ((spec_l3Holds.f k l0_1 a1).bind fun t203 => (some (((Int.tmod (ji4) 2) == 1) == t203))) = some r := by first | (rw [hji4] at H; exact H) | (simp only [hji4] at H ⊢; exact H)
 have hji4_ : (a1 / 2 ^ min a0_0.toNat 64) = ji4 := hji4
 have hji4z : a0_0 ≤ 64 → (a1 / 2 ^ a0_0.toNat) = ji4 := shr_small hji4
 replace H := Option.bind_eq_some_iff.mp H
 obtain ⟨t203, A50, H⟩ := H
 try dsimp only at H
 have A5 := Aside0.mk A50
 clear A50
 obtain rfl := Option.some.inj H
 go_enter Try.func101, Try.ntmps101
 go_wp2_with (first | ((with_reducible refine gate_dst (N := 2) rfl ?_); refine box_event ?hg (N := 2) ?hd (cs := #[.int .i64 a0_0, .slice A0_1 l0_1.length c0_1]) (t := 83) ?hr ?_; (case hd => rfl); (case hg => rfl); (case hr => first | (go_simp; done) | (go_simp; rfl)); intro gb202 hg w6 hbox hb; have BK202 := Aside0.mk (hbox); have GW202 := Aside0.mk ((by rw [hg]; exact (below_size (below_at HB.out)) : w.heap.size ≤ gb202)); have GE202 := Aside0.mk ((by rw [hg]; exact (below_size (below_at HB.out)) : w.heap.size ≤ gb202)); replace HB := Aside0.mk (below_step (below_at HB.out) hb); clear hb hbox hg; have hcz7_0 := blk_cell BK202.out 0; have hcz7_1 := blk_cell BK202.out 1; have hfz7_0 := blk_frozen BK202.out 0; have hfz7_1 := blk_frozen BK202.out 1) | (go_at_call 111; (with_reducible refine (spec_l3Holds.calls k _ _ l0_1 a1 t203 _ ?side1 ?side2 A5.out).mono ?_); (case side1 => exact Kd.C_below (Kd.C_below HR0_1.out HB.out) lt_); (case side2 => exact HC0_1.out); rintro e w' ⟨rfl, ⟨nd, rfl⟩⟩; (try first | exact ⟨rfl, _, World.drewN_drewN _ _ _⟩ | exact ⟨rfl, _, Eq.trans (World.drewN_drewN _ _ _) (congrArg (World.drewN _) (Nat.add_assoc _ _ _))⟩)))
 repeat (go_quiet (first | ((with_reducible refine gate_dst (N := 2) rfl ?_); refine box_event ?hg (N := 2) ?hd (cs := #[.int .i64 a0_0, .slice A0_1 l0_1.length c0_1]) (t := 83) ?hr ?_; (case hd => rfl); (case hg => rfl); (case hr => first | (go_simp; done) | (go_simp; rfl)); intro gb202 hg w6 hbox hb; have n0_ := Aside0.mk (below_step (below_at HB.out) hb); have n1_ := Aside0.mk (hbox); have n2_ := Aside0.mk ((by rw [hg]; exact (below_size (below_at HB.out)) : w.heap.size ≤ gb202)); have n3_ := Aside0.mk ((by rw [hg]; exact (below_size (below_at HB.out)) : w.heap.size ≤ gb202)); clear HB; have HB := n0_; have BK202 := n1_; have GW202 := n2_; have GE202 := n3_; clear n0_ n1_ n2_ n3_; clear hb hbox hg; have hcz7_0 := blk_cell BK202.out 0; have hcz7_1 := blk_cell BK202.out 1; have hfz7_0 := blk_frozen BK202.out 0; have hfz7_1 := blk_frozen BK202.out 1) | (go_at_call 111; (with_reducible refine (spec_l3Holds.calls k _ _ l0_1 a1 t203 _ ?side1 ?side2 A5.out).mono ?_); (case side1 => exact Kd.C_below (Kd.C_below HR0_1.out HB.out) lt_); (case side2 => exact HC0_1.out); rintro e w' ⟨rfl, ⟨nd, rfl⟩⟩; (try first | exact ⟨rfl, _, World.drewN_drewN _ _ _⟩ | exact ⟨rfl, _, Eq.trans (World.drewN_drewN _ _ _) (congrArg (World.drewN _) (Nat.add_assoc _ _ _))⟩))); try go_wp2_with (first | ((with_reducible refine gate_dst (N := 2) rfl ?_); refine box_event ?hg (N := 2) ?hd (cs := #[.int .i64 a0_0, .slice A0_1 l0_1.length c0_1]) (t := 83) ?hr ?_; (case hd => rfl); (case hg => rfl); (case hr => first | (go_simp; done) | (go_simp; rfl)); intro gb202 hg w6 hbox hb; have BK202 := Aside0.mk (hbox); have GW202 := Aside0.mk ((by rw [hg]; exact (below_size (below_at HB.out)) : w.heap.size ≤ gb202)); have GE202 := Aside0.mk ((by rw [hg]; exact (below_size (below_at HB.out)) : w.heap.size ≤ gb202)); replace HB := Aside0.mk (below_step (below_at HB.out) hb); clear hb hbox hg; have hcz7_0 := blk_cell BK202.out 0; have hcz7_1 := blk_cell BK202.out 1; have hfz7_0 := blk_frozen BK202.out 0; have hfz7_1 := blk_frozen BK202.out 1) | (go_at_call 111; (with_reducible refine (spec_l3Holds.calls k _ _ l0_1 a1 t203 _ ?side1 ?side2 A5.out).mono ?_); (case side1 => exact Kd.C_below (Kd.C_below HR0_1.out HB.out) lt_); (case side2 => exact HC0_1.out); rintro e w' ⟨rfl, ⟨nd, rfl⟩⟩; (try first | exact ⟨rfl, _, World.drewN_drewN _ _ _⟩ | exact ⟨rfl, _, Eq.trans (World.drewN_drewN _ _ _) (congrArg (World.drewN _) (Nat.add_assoc _ _ _))⟩))))
 go_ret
 exact ⟨by first | rfl | (simp [errW_none, errW_some] <;> rfl) | (simp only [← hji4]; first | rfl | (simp [errW_none, errW_some] <;> rfl)) | (simp [*, errW_none, errW_some] <;> rfl), at_ HB.out⟩

end Go.Proofs.Ytbhmippoeimliaa.P

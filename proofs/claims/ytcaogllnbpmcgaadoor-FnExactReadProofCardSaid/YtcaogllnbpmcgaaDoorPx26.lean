/- Go's functions come to just the answers of the Lean functions told here. -/
import Derived.Test.YtcaogllnbpmcgaaDoorPx25
namespace Go.Proofs.YtcaogllnbpmcgaaDoor.P
open Go.RowKit Go.Proofs.YtcaogllnbpmcgaaDoorW.PrintWords Go.Proofs.YtcaogllnbpmcgaaDoorW.PrintLast Go.Proofs.YtcaogllnbpmcgaaDoorW.PrintMore
attribute [local go_sem] max2_int min2_int max_two min_two max_three min_three max_four min_four
set_option linter.unusedVariables false
set_option linter.unusedSimpArgs false

/-! ### spec_l11Read: function 49 -/
mutual
def spec_l11Read.j0 : Nat → ByteArray → Int → List (S68) → Bool → Option ((List (S68)) × Int × Int)
 | 0, _, _, _, _ => none
 | k + 1, x0, x1, x2, x28 => if x28 = true then (if 0 ≤ x1 then (if x1 < (x0.size : Int) then (some (x2, (-2) - (((bt x0 x1) - 48) % 256), wrap64 (x1 + 1))) else (none)) else (none)) else (if 0 ≤ x1 then (if x1 < (x0.size : Int) then (if (bt x0 x1) < 97 then (some (x2, (-1), (-1))) else (if (bt x0 x1) > 100 then (some (x2, (-1), (-1))) else (if (wrap64 (x1 + 1)) ≥ (x0.size : Int) then (some (x2, (-1), (-1))) else (if 0 ≤ (wrap64 (x1 + 1)) then (if (wrap64 (x1 + 1)) < (x0.size : Int) then (if (bt x0 (wrap64 (x1 + 1))) = 40 then (if (x2.length : Int) ≥ 15 then (some (x2, (-1), (-1))) else ((some (([] : List (S68)) : List (S68))).bind fun y329 => (if y329.length + x2.length < 5864062014805 then ((some (y329 ++ x2 : List (S68))).bind fun y332 => (if y332.length < 5864062014805 then ((spec_l11Read.f k x0 (wrap64 (x1 + 2)) (y332 ++ [(⟨((bt x0 x1) - 97) % 256, (-1), (-1)⟩ : S68)])).bind fun bt338 => (if bt338.2.2 < 0 then (spec_l11Read.j1 k x0 bt338.1 (x2.length : Int) (((bt x0 x1) - 97) % 256) bt338.2.1 bt338.2.2 true) else (if bt338.2.2 ≥ (x0.size : Int) then (spec_l11Read.j1 k x0 bt338.1 (x2.length : Int) (((bt x0 x1) - 97) % 256) bt338.2.1 bt338.2.2 true) else (if 0 ≤ bt338.2.2 then (if bt338.2.2 < (x0.size : Int) then (spec_l11Read.j1 k x0 bt338.1 (x2.length : Int) (((bt x0 x1) - 97) % 256) bt338.2.1 bt338.2.2 ((bt x0 bt338.2.2) != 44)) else (none)) else (none))))) else (none))) else (none)))) else (some (x2, (-1), (-1)))) else (none)) else (none))))) else (none)) else (none))
def spec_l11Read.j1 : Nat → ByteArray → List (S68) → Int → Int → Int → Int → Bool → Option ((List (S68)) × Int × Int)
 | 0, _, _, _, _, _, _, _ => none
 | k + 1, x0, x2, x9, x10, x11, x12, x115 => if x115 = true then (some (x2, (-1), (-1))) else ((spec_l11Read.f k x0 (wrap64 (x12 + 1)) x2).bind fun bt343 => (if bt343.2.2 < 0 then (some (bt343.1, (-1), (-1))) else (if bt343.2.2 ≥ (x0.size : Int) then (some (bt343.1, (-1), (-1))) else (if 0 ≤ bt343.2.2 then (if bt343.2.2 < (x0.size : Int) then (if (bt x0 bt343.2.2) = 41 then (if 0 ≤ x9 then (if x9 < (bt343.1.length : Int) then (some ((bt343.1.set (x9 : Int).toNat (⟨x10, x11, bt343.2.1⟩ : S68)), x9, wrap64 (bt343.2.2 + 1))) else (none)) else (none)) else (some (bt343.1, (-1), (-1)))) else (none)) else (none)))))
def spec_l11Read.f : Nat → ByteArray → Int → List (S68) → Option ((List (S68)) × Int × Int)
 | 0, _, _, _ => none
 | k + 1, a0, a1, l2 => if a1 ≥ (a0.size : Int) then (some (l2, (-1), (-1))) else (if 0 ≤ a1 then (if a1 < (a0.size : Int) then (if (bt a0 a1) = 42 then (some (l2, (-1), wrap64 (a1 + 1))) else (if (bt a0 a1) ≥ 48 then (spec_l11Read.j0 k a0 a1 l2 (decide ((bt a0 a1) ≤ 53))) else (spec_l11Read.j0 k a0 a1 l2 false))) else (none)) else (none))
end
set_option maxHeartbeats 8000000 in
set_option maxRecDepth 100000 in
theorem spec_l11Read.calls (k : Nat) : ∀ (a0 : ByteArray) (a1 : Int) (P2_ : Nat → Prop) (u9000_ : Value) (l2 : List (S68)) (r1 : List (S68)) (r2 : Int) (r3 : Int) (w0 w : World) (hB : Below w0.heap.size w0 w) (ho2 : Kd.R k68 68 w w0.heap.size P2_ u9000_ l2) (h : spec_l11Read.f k a0 a1 l2 = some (r1, r2, r3)),
  Calls Tryd.prog 49 #[.string a0, .int .i64 a1, u9000_] w fun e w' => ∃ v0_ : Value, e = .returned (.tuple #[v0_, .int .i64 r2, .int .i64 r3]) ∧ Kd.R k68 68 w' w0.heap.size (fun k_ => (P2_ k_ ∨ w.heap.size ≤ k_)) v0_ r1 ∧ Below w0.heap.size w0 w' ∧ Kept w w' (fun k_ => P2_ k_) := by
 induction k using Nat.strongRecOn with
 | _ k ih =>
 intro a0 a1 P2_ u9000_ l2 r1 r2 r3 w0 w hB ho2 h
 cases k with
 | zero => exact absurd h (by simp [spec_l11Read.f])
 | succ k =>
 simp only [spec_l11Read.f] at h
 have hu68 := Tryd.underlying68
 have HO2 := mk_ (show Kd.R k68 68 w w0.heap.size (fun k_ => (P2_ k_ ∨ w.heap.size ≤ k_)) u9000_ l2 from Kd.R_mono ho2 (fun k_ hk => (.inl hk)))
 have HK := mk_ (Kept.refl w (fun k_ => P2_ k_))
 have HW0 := mk_ hB.size
 have HB := mk_ hB
 clear hB
 have H : (if a1 ≥ (a0.size : Int) then (some (l2, (-1), (-1))) else (if 0 ≤ a1 then (if a1 < (a0.size : Int) then (if (bt a0 a1) = 42 then (some (l2, (-1), wrap64 (a1 + 1))) else (if (bt a0 a1) ≥ 48 then (spec_l11Read.j0 k a0 a1 l2 (decide ((bt a0 a1) ≤ 53))) else (spec_l11Read.j0 k a0 a1 l2 false))) else (none)) else (none))) = some (r1, r2, r3) := h
 clear h
 by_cases c4 : a1 ≥ (a0.size : Int)
 ·rw [if_pos c4] at H
  have c4b0 : decide ((a0.size : Int) ≤ a1) = true := decide_eq_true c4
  clear c4
  simp only [Option.some.injEq, Prod.mk.injEq] at H
  obtain ⟨rfl, rfl, rfl⟩ := H
  go_enter Tryd.func49, Tryd.ntmps49
  go_wp2
  repeat (go_quiet (fail); try go_wp2)
  go_ret3
  exact ⟨_, er_, rl_ HO2.out, below_at HB.out, kp_ HK.out⟩
 rw [if_neg c4] at H
 have c4b0 : decide ((a0.size : Int) ≤ a1) = false := decide_eq_false c4
 clear c4
 by_cases c5 : 0 ≤ a1
 rotate_left
 ·rw [if_neg c5] at H
  exact absurd H (by simp)
 rw [if_pos c5] at H
 have c5b0 : decide (0 ≤ a1) = true := decide_eq_true c5
 clear c5
 by_cases c6 : a1 < (a0.size : Int)
 rotate_left
 ·rw [if_neg c6] at H
  exact absurd H (by simp)
 rw [if_pos c6] at H
 have c6b0 : decide (a1 < (a0.size : Int)) = true := decide_eq_true c6
 clear c6
 by_cases c8 : (bt a0 a1) = 42
 ·rw [if_pos c8] at H
  have c8b0 : ((bt a0 a1) == 42) = true := beq_iff_eq.mpr c8
  have c8b1 : ((bt a0 a1) != 42) = false := bne_eq_false_iff_eq.mpr c8
  clear c8
  simp only [Option.some.injEq, Prod.mk.injEq] at H
  obtain ⟨rfl, rfl, rfl⟩ := H
  have p7 : 0 ≤ (a1 : Int) := oa_
  have q7 : a1 < (a0.size : Int) := oa_
  have hx7 := bt_at a0 a1
  replace p7 := eq_true p7
  replace q7 := eq_true q7
  go_enter Tryd.func49, Tryd.ntmps49
  go_wp2
  repeat (go_quiet (fail); try go_wp2)
  go_ret3
  exact ⟨_, er_, rl_ HO2.out, below_at HB.out, kp_ HK.out⟩
 rw [if_neg c8] at H
 have c8b0 : ((bt a0 a1) == 42) = false := beq_eq_false_iff_ne.mpr c8
 have c8b1 : ((bt a0 a1) != 42) = true := bne_iff_ne.mpr c8
 have HC9 := mk_ H
 clear H
 have p7 : 0 ≤ (a1 : Int) := oa_
 have q7 : a1 < (a0.size : Int) := oa_
 have hx7 := bt_at a0 a1
 replace p7 := eq_true p7
 replace q7 := eq_true q7
 go_enter Tryd.func49, Tryd.ntmps49
 go_upto_region 5 with (fail)
 repeat (go_quiet (fail); go_upto_region 5 with (fail))
 go_cut [28] (fun v28 wc => ∃ (kq : Nat) (x28_8 : Bool), v28 = .bool x28_8 ∧ Aside0 (spec_l11Read.j0 kq a0 a1 l2 x28_8 = some (r1, r2, r3)) ∧ Aside0 (kq ≤ k) ∧ Aside0 (Kd.R k68 68 wc w0.heap.size (fun k_ => (P2_ k_ ∨ w.heap.size ≤ k_)) u9000_ l2) ∧ Aside0 (Kept w wc (fun k_ => P2_ k_)) ∧ Aside0 (Below w0.heap.size w0 wc))
 case first =>
  have H := HC9.out
  clear HC9
  by_cases c11 : (bt a0 a1) ≥ 48
  rotate_left
  ·rw [if_neg c11] at H
   have c11b0 : decide (48 ≤ (bt a0 a1)) = false := decide_eq_false c11
   clear c11
   (first | rw [c11b0] | (simp only [i64_w, i32_w]; rw [c11b0]) | skip)
   have H' := mk_ H
   clear H
   have p10 : 0 ≤ (a1 : Int) := oa_
   have q10 : a1 < (a0.size : Int) := oa_
   have hx10 := bt_at a0 a1
   replace p10 := eq_true p10
   replace q10 := eq_true q10
   go_wp2
   repeat (go_quiet (fail); try go_wp2)
   go_meet
   case rel => exact ⟨_, (false), sm_, H', ⟨by first | omega | exact Nat.le_refl _⟩, ⟨Kd.R_below HO2.out lt_⟩, ⟨kp_ HK.out⟩, ⟨below_at HB.out⟩⟩
  rw [if_pos c11] at H
  have c11b0 : decide (48 ≤ (bt a0 a1)) = true := decide_eq_true c11
  clear c11
  (first | rw [c11b0] | (simp only [i64_w, i32_w]; rw [c11b0]) | skip)
  have H' := mk_ H
  clear H
  have p10 : 0 ≤ (a1 : Int) := oa_
  have q10 : a1 < (a0.size : Int) := oa_
  have hx10 := bt_at a0 a1
  replace p10 := eq_true p10
  replace q10 := eq_true q10
  have p12 : 0 ≤ (a1 : Int) := oa_
  have q12 : a1 < (a0.size : Int) := oa_
  have hx12 := bt_at a0 a1
  replace p12 := eq_true p12
  replace q12 := eq_true q12
  go_wp2
  repeat (go_quiet (fail); try go_wp2)
  go_meet
  case rel => exact ⟨_, (decide ((bt a0 a1) ≤ 53)), sm_, H', ⟨by first | omega | exact Nat.le_refl _⟩, ⟨Kd.R_below HO2.out lt_⟩, ⟨kp_ HK.out⟩, ⟨below_at HB.out⟩⟩
 clear HC9
 try clear c1
 try clear p1
 try clear q1
 try clear hx1
 try clear p2
 try clear c4
 try clear c4b0
 try clear c5
 try clear c5b0
 try clear c6
 try clear c6b0
 try clear p6
 try clear p7
 try clear q7
 try clear hx7
 try clear c8
 try clear c8b0
 try clear c8b1
 try clear p10
 try clear q10
 try clear hx10
 try clear c11
 try clear c11b0
 try clear p12
 try clear q12
 try clear hx12
 try clear p10
 try clear p12
 try clear p7
 try clear q10
 try clear q12
 try clear q7
 obtain ⟨kq, x28_8, rfl, HA, HJ8, HO_2, HK, HB⟩ := hcut
 cases kq with
 | zero => exact absurd HA.out (by simp [spec_l11Read.j0])
 | succ kj8 =>
  have H := HA.out
  clear HA
  simp only [spec_l11Read.j0] at H
  by_cases c13 : x28_8 = true
  ·subst c13
   rw [if_pos rfl] at H
   by_cases c14 : 0 ≤ a1
   rotate_left
   ·rw [if_neg c14] at H
    exact absurd H (by simp)
   rw [if_pos c14] at H
   have c14b0 : decide (0 ≤ a1) = true := decide_eq_true c14
   clear c14
   by_cases c15 : a1 < (a0.size : Int)
   rotate_left
   ·rw [if_neg c15] at H
    exact absurd H (by simp)
   rw [if_pos c15] at H
   have c15b0 : decide (a1 < (a0.size : Int)) = true := decide_eq_true c15
   clear c15
   simp only [Option.some.injEq, Prod.mk.injEq] at H
   obtain ⟨rfl, rfl, rfl⟩ := H
   have p16 : 0 ≤ (a1 : Int) := oa_
   have q16 : a1 < (a0.size : Int) := oa_
   have hx16 := bt_at a0 a1
   replace p16 := eq_true p16
   replace q16 := eq_true q16
   go_wp2
   repeat (go_quiet (fail); try go_wp2)
   go_ret3
   exact ⟨_, er_, rl_ HO_2.out, below_at HB.out, kp_ HK.out⟩
  replace c13 := Bool.eq_false_iff.mpr c13
  subst c13
  rw [if_neg Bool.false_ne_true] at H
  by_cases c17 : 0 ≤ a1
  rotate_left
  ·rw [if_neg c17] at H
   exact absurd H (by simp)
  rw [if_pos c17] at H
  have c17b0 : decide (0 ≤ a1) = true := decide_eq_true c17
  clear c17
  by_cases c18 : a1 < (a0.size : Int)
  rotate_left
  ·rw [if_neg c18] at H
   exact absurd H (by simp)
  rw [if_pos c18] at H
  have c18b0 : decide (a1 < (a0.size : Int)) = true := decide_eq_true c18
  clear c18
  by_cases c20 : (bt a0 a1) < 97
  ·rw [if_pos c20] at H
   have c20b0 : decide ((bt a0 a1) < 97) = true := decide_eq_true c20
   clear c20
   simp only [Option.some.injEq, Prod.mk.injEq] at H
   obtain ⟨rfl, rfl, rfl⟩ := H
   have p19 : 0 ≤ (a1 : Int) := oa_
   have q19 : a1 < (a0.size : Int) := oa_
   have hx19 := bt_at a0 a1
   replace p19 := eq_true p19
   replace q19 := eq_true q19
   go_wp2
   repeat (go_quiet (fail); try go_wp2)
   go_ret3
   exact ⟨_, er_, rl_ HO_2.out, below_at HB.out, kp_ HK.out⟩
  rw [if_neg c20] at H
  have c20b0 : decide ((bt a0 a1) < 97) = false := decide_eq_false c20
  clear c20
  by_cases c22 : (bt a0 a1) > 100
  ·rw [if_pos c22] at H
   have c22b0 : decide (100 < (bt a0 a1)) = true := decide_eq_true c22
   clear c22
   simp only [Option.some.injEq, Prod.mk.injEq] at H
   obtain ⟨rfl, rfl, rfl⟩ := H
   have p19 : 0 ≤ (a1 : Int) := oa_
   have q19 : a1 < (a0.size : Int) := oa_
   have hx19 := bt_at a0 a1
   replace p19 := eq_true p19
   replace q19 := eq_true q19
   have p21 : 0 ≤ (a1 : Int) := oa_
   have q21 : a1 < (a0.size : Int) := oa_
   have hx21 := bt_at a0 a1
   replace p21 := eq_true p21
   replace q21 := eq_true q21
   go_wp2
   repeat (go_quiet (fail); try go_wp2)
   go_ret3
   exact ⟨_, er_, rl_ HO_2.out, below_at HB.out, kp_ HK.out⟩
  rw [if_neg c22] at H
  have c22b0 : decide (100 < (bt a0 a1)) = false := decide_eq_false c22
  clear c22
  by_cases c23 : (wrap64 (a1 + 1)) ≥ (a0.size : Int)
  ·rw [if_pos c23] at H
   have c23b0 : decide ((a0.size : Int) ≤ (wrap64 (a1 + 1))) = true := decide_eq_true c23
   clear c23
   simp only [Option.some.injEq, Prod.mk.injEq] at H
   obtain ⟨rfl, rfl, rfl⟩ := H
   have p19 : 0 ≤ (a1 : Int) := oa_
   have q19 : a1 < (a0.size : Int) := oa_
   have hx19 := bt_at a0 a1
   replace p19 := eq_true p19
   replace q19 := eq_true q19
   have p21 : 0 ≤ (a1 : Int) := oa_
   have q21 : a1 < (a0.size : Int) := oa_
   have hx21 := bt_at a0 a1
   replace p21 := eq_true p21
   replace q21 := eq_true q21
   go_wp2
   repeat (go_quiet (fail); try go_wp2)
   go_ret3
   exact ⟨_, er_, rl_ HO_2.out, below_at HB.out, kp_ HK.out⟩
  rw [if_neg c23] at H
  have c23b0 : decide ((a0.size : Int) ≤ (wrap64 (a1 + 1))) = false := decide_eq_false c23
  clear c23
  obtain ⟨ji24, hji24⟩ : ∃ j_ : Int, (wrap64 (a1 + 1)) = j_ := ⟨_, rfl⟩
  first | rw [hji24] at H | simp only [hji24] at H
  (try rw [hji24] at c23b0)
  have hji24w : (IntKind.i64.wrap (a1 + 1)) = ji24 := (i64_w _).trans hji24
  by_cases c25 : 0 ≤ (ji24)
  rotate_left
  ·rw [if_neg c25] at H
   exact absurd H (by simp)
  rw [if_pos c25] at H
  have c25b0 : decide (0 ≤ (ji24)) = true := decide_eq_true c25
  clear c25
  by_cases c26 : (ji24) < (a0.size : Int)
  rotate_left
  ·rw [if_neg c26] at H
   exact absurd H (by simp)
  rw [if_pos c26] at H
  have c26b0 : decide ((ji24) < (a0.size : Int)) = true := decide_eq_true c26
  clear c26
  by_cases c28 : (bt a0 (ji24)) = 40
  rotate_left
  ·rw [if_neg c28] at H
   have c28b0 : ((bt a0 (ji24)) == 40) = false := beq_eq_false_iff_ne.mpr c28
   have c28b1 : ((bt a0 (ji24)) != 40) = true := bne_iff_ne.mpr c28
   simp only [Option.some.injEq, Prod.mk.injEq] at H
   obtain ⟨rfl, rfl, rfl⟩ := H
   have p19 : 0 ≤ (a1 : Int) := oa_
   have q19 : a1 < (a0.size : Int) := oa_
   have hx19 := bt_at a0 a1
   replace p19 := eq_true p19
   replace q19 := eq_true q19
   have p21 : 0 ≤ (a1 : Int) := oa_
   have q21 : a1 < (a0.size : Int) := oa_
   have hx21 := bt_at a0 a1
   replace p21 := eq_true p21
   replace q21 := eq_true q21
   have p27 : 0 ≤ ((ji24) : Int) := oa_
   have q27 : (ji24) < (a0.size : Int) := oa_
   have hx27 := bt_at a0 (ji24)
   replace p27 := eq_true p27
   replace q27 := eq_true q27
   go_wp2
   repeat (go_quiet (fail); try go_wp2)
   go_ret3
   exact ⟨_, by first | rfl | (simp [errW_none, errW_some] <;> rfl) | (simp only [← hji24]; first | rfl | (simp [errW_none, errW_some] <;> rfl)) | (simp [*, errW_none, errW_some] <;> rfl), rl_ HO_2.out, below_at HB.out, kp_ HK.out⟩
  rw [if_pos c28] at H
  have c28b0 : ((bt a0 (ji24)) == 40) = true := beq_iff_eq.mpr c28
  have c28b1 : ((bt a0 (ji24)) != 40) = false := bne_eq_false_iff_eq.mpr c28
  clear c28
  by_cases c29 : (l2.length : Int) ≥ 15
  ·rw [if_pos c29] at H
   have c29b0 : decide (15 ≤ (l2.length : Int)) = true := decide_eq_true c29
   have c29b1 : decide (15 ≤ l2.length) = true := decide_eq_true (by omega)
   clear c29
   simp only [Option.some.injEq, Prod.mk.injEq] at H
   obtain ⟨rfl, rfl, rfl⟩ := H
   have p19 : 0 ≤ (a1 : Int) := oa_
   have q19 : a1 < (a0.size : Int) := oa_
   have hx19 := bt_at a0 a1
   replace p19 := eq_true p19
   replace q19 := eq_true q19
   have p21 : 0 ≤ (a1 : Int) := oa_
   have q21 : a1 < (a0.size : Int) := oa_
   have hx21 := bt_at a0 a1
   replace p21 := eq_true p21
   replace q21 := eq_true q21
   have p27 : 0 ≤ ((ji24) : Int) := oa_
   have q27 : (ji24) < (a0.size : Int) := oa_
   have hx27 := bt_at a0 (ji24)
   replace p27 := eq_true p27
   replace q27 := eq_true q27
   obtain ⟨Ao30, co30, eo30⟩ := Kd.R_slice HO_2.out
   subst eo30
   go_wp2
   repeat (go_quiet (fail); try go_wp2)
   go_ret3
   exact ⟨_, by first | rfl | (simp [errW_none, errW_some] <;> rfl) | (simp only [← hji24]; first | rfl | (simp [errW_none, errW_some] <;> rfl)) | (simp [*, errW_none, errW_some] <;> rfl), rl_ HO_2.out, below_at HB.out, kp_ HK.out⟩
  rw [if_neg c29] at H
  have c29b0 : decide (15 ≤ (l2.length : Int)) = false := decide_eq_false c29
  have c29b1 : decide (15 ≤ l2.length) = false := decide_eq_false (by omega)
  clear c29
  obtain ⟨y329, hy329⟩ : ∃ y_ : List (S68), y_ = (([] : List (S68))) := ⟨_, rfl⟩
  replace H : (if y329.length + l2.length < 5864062014805 then ((some (y329 ++ l2 : List (S68))).bind fun y332 => (if y332.length < 5864062014805 then ((spec_l11Read.f kj8 a0 (wrap64 (a1 + 2)) (y332 ++ [(⟨((bt a0 a1) - 97) % 256, (-1), (-1)⟩ : S68)])).bind fun bt338 => (if bt338.2.2 < 0 then (spec_l11Read.j1 kj8 a0 bt338.1 (l2.length : Int) (((bt a0 a1) - 97) % 256) bt338.2.1 bt338.2.2 true) else (if bt338.2.2 ≥ (a0.size : Int) then (spec_l11Read.j1 kj8 a0 bt338.1 (l2.length : Int) (((bt a0 a1) - 97) % 256) bt338.2.1 bt338.2.2 true) else (if 0 ≤ bt338.2.2 then (if bt338.2.2 < (a0.size : Int) then (spec_l11Read.j1 kj8 a0 bt338.1 (l2.length : Int) (((bt a0 a1) - 97) % 256) bt338.2.1 bt338.2.2 ((bt a0 bt338.2.2) != 44)) else (none)) else (none))))) else (none))) else (none)) = some (r1, r2, r3) := by first | (rw [hy329]; exact H) | exact H
  have Ny329 := mk_ hy329
  clear hy329
  by_cases c32 : y329.length + l2.length < 5864062014805
  rotate_left
  ·rw [if_neg c32] at H
   exact absurd H (by simp)
  rw [if_pos c32] at H
  have LMc32 := mk_ c32
  clear c32
  obtain ⟨y332, hy332⟩ : ∃ y_ : List (S68), y_ = (y329 ++ l2) := ⟨_, rfl⟩
  first | (replace H := bn_ hy332 H; try dsimp only at H) | rw [← hy332] at H
  have Ny332 := mk_ hy332
  clear hy332
  by_cases c33 : y332.length < 5864062014805
  rotate_left
  ·rw [if_neg c33] at H
   exact absurd H (by simp)
  rw [if_pos c33] at H
  have LMc33 := mk_ c33
  clear c33
  obtain ⟨y335, hy335⟩ : ∃ y_ : List (S68), y_ = (y332 ++ [(⟨((bt a0 a1) - 97) % 256, (-1), (-1)⟩ : S68)]) := ⟨_, rfl⟩
  first | (replace H := bn_ hy335 H; try dsimp only at H) | rw [← hy335] at H
  have Ny335 := mk_ hy335
  clear hy335
  replace H := Option.bind_eq_some_iff.mp H
  obtain ⟨⟨t338, t341, t342⟩, A340, H⟩ := H
  try dsimp only at H
  have A34 := mk_ A340
  clear A340
  have HC35 := mk_ H
  clear H
  have p19 : 0 ≤ (a1 : Int) := oa_
  have q19 : a1 < (a0.size : Int) := oa_
  have hx19 := bt_at a0 a1
  replace p19 := eq_true p19
  replace q19 := eq_true q19
  have p21 : 0 ≤ (a1 : Int) := oa_
  have q21 : a1 < (a0.size : Int) := oa_
  have hx21 := bt_at a0 a1
  replace p21 := eq_true p21
  replace q21 := eq_true q21
  have p27 : 0 ≤ ((ji24) : Int) := oa_
  have q27 : (ji24) < (a0.size : Int) := oa_
  have hx27 := bt_at a0 (ji24)
  replace p27 := eq_true p27
  replace q27 := eq_true q27
  obtain ⟨Ao36, co36, eo36⟩ := Kd.R_slice HO_2.out
  subst eo36
  have p31 : 0 ≤ (a1 : Int) := oa_
  have q31 : a1 < (a0.size : Int) := oa_
  have hx31 := bt_at a0 a1
  replace p31 := eq_true p31
  replace q31 := eq_true q31
  go_upto_region 13 with (first | ((with_reducible refine gate_dst (N := 86) rfl ?_); (try (refine gate_guard (by rfl) ?_; dsimp only)); refine Kd.R_lit k68 _ 68 ?hg (N := 86) ?hd (xs := ([] : List (S68))) (inner := []) (ok := fun _ => True) (okp := fun _ => True) ?hr ?hp (fun _ hk => hk) trivial (Below.refl _ _) (Nat.le_refl _) (by simp) ?_; (case hd => rfl); (case hg => rfl); (case hr => first | (go_simp; done) | (go_simp; rfl)); (case hp => exact (Reps.none _ _)); intro v330 w37 ho38 hb hg_ hnew_; clear hg_ hnew_; (first | rw [← Ny329.out] at ho38 | (simp only [Int.reduceToNat] at ho38; rw [← Ny329.out] at ho38)); have HO331 := mk_ (Kd.R_lower (Kd.R_new' (Kd.R_newM (M := fun k_ => (P2_ k_ ∨ w.heap.size ≤ k_)) ho38 (kp_ HK.out).1 (fun k_ h_ => .inr h_)) (Kd.R_lt (Kd.R_below HO_2.out lt_))) (below_size (below_at HB.out))); replace HO_2 := mk_ (Kd.R_elder' (Kd.R_below HO_2.out lt_) (Kd.R_base ho38) hb); replace HK := mk_ (Kept.below (S := (fun k_ => P2_ k_)) (kp_ HK.out) hb); replace HB := mk_ (below_step (below_at HB.out) hb); clear hb ho38) | ((with_reducible refine gate_builtin (b := .append) (xs := #[.tmp 86, .tmp 87]) rfl ?_); (try (refine gate_guard (by rfl) ?_; dsimp only)); at_builtin; refine Kd.R_append_rows k68 (w0 := w0) w0.heap.size rfl (.tmp 86) (.tmp 87) 25 68 (.agg #[(.int .i64 0), (.int .i64 0), (.int .i64 0)]) 24 rfl Tryd.underlying25 info68 rfl (by decide) (by omega) v330 y329 l2 _ _ _ (fun k_ => (P2_ k_ ∨ w.heap.size ≤ k_) ∧ some k_ ≠ (.slice Ao36 l2.length co36 : Value).ownBlock) (fun _ => False) rfl rfl ?aO ?aR (fun _ _ h => h) (fun _ h => h.elim) ?aF ?aB ?aS ?aL ?_; (case aR => exact Kd.C_below (Kd.R_reads' HO_2.out).2.2 lt_); (case aB => exact (below_at HB.out)); (case aF => exact (fun k_ hk => ⟨(.inr (Nat.le_trans (kp_ HK.out).1 hk)), Kd.fresh' (Kd.R_lt (Kd.R_below HO_2.out lt_)) k_ hk⟩)); (case aO => exact (Kd.R_below (Kd.R_mono HO331.out (fun _ hk => ⟨hk.1.1, hk.2⟩)) lt_)); (case aS => exact (below_size (below_at HB.out))); (case aL => have := LMc32.out; omega); intro v333 w39 ho hb hg hat; rw [← Ny332.out] at ho; replace HO_2 := mk_ (Kd.R_after (ok := (fun k_ => (P2_ k_ ∨ w.heap.size ≤ k_))) (Kd.R_below HO_2.out lt_) hg hat); replace HB := mk_ (hb); replace HK := mk_ (Kept.of_grown (S := (fun k_ => P2_ k_)) hg (kp_ HK.out) (fun k_ e_ => (HO331.out.1 k_ e_).1.1)); have HO334 := mk_ (ho); (try clear HO331); clear ho hb hg hat) | ((with_reducible refine gate_builtin (b := .append) (xs := #[.tmp 88, .tmp 91]) rfl ?_); (try (refine gate_guard (by rfl) ?_; dsimp only)); at_builtin; refine Kd.R_append k68 (w0 := w0) w0.heap.size rfl (.tmp 88) (.tmp 91) 25 68 (.agg #[(.int .i64 0), (.int .i64 0), (.int .i64 0)]) 24 rfl Tryd.underlying25 info68 rfl (by decide) (by omega) v333 y332 (⟨((bt a0 a1) - 97) % 256, (-1), (-1)⟩ : S68) [.int .i64 (((bt a0 a1) - 97) % 256), .int .i64 (-1), .int .i64 (-1)] (fun k_ => (P2_ k_ ∨ w.heap.size ≤ k_) ∧ some k_ ≠ (.slice Ao36 l2.length co36 : Value).ownBlock) (fun _ => False) rfl rfl ?aP (fun _ hk => hk.elim) ?aF ?aO ?aB ?aS ?aL ?_; (case aP => exact k68_mkM _ _ _ (⟨((bt a0 a1) - 97) % 256, (-1), (-1)⟩ : S68)); (case aB => exact (below_at HB.out)); (case aF => exact (fun k_ hk => ⟨(.inr (Nat.le_trans (kp_ HK.out).1 hk)), Kd.fresh' (Kd.R_lt (Kd.R_below HO_2.out lt_)) k_ hk⟩)); (case aO => exact (Kd.R_below HO334.out lt_)); (case aS => exact (below_size (below_at HB.out))); (case aL => have := LMc33.out; omega); intro v336 w40 ho hb hg hat; rw [← Ny335.out] at ho; replace HO_2 := mk_ (Kd.R_after (ok := (fun k_ => (P2_ k_ ∨ w.heap.size ≤ k_))) (Kd.R_below HO_2.out lt_) hg hat); replace HB := mk_ (hb); replace HK := mk_ (Kept.of_grown (S := (fun k_ => P2_ k_)) hg (kp_ HK.out) (fun k_ e_ => (HO334.out.1 k_ e_).1)); have HO337 := mk_ (ho); (try clear HO334); clear ho hb hg hat; obtain ⟨Ao41, co41, eo41⟩ := Kd.R_slice HO337.out; subst eo41) | (go_at_call 49; (with_reducible refine (ih kj8 (by have := HJ8.out; omega) a0 (wrap64 (a1 + 2)) (fun k_ => some k_ = (.slice Ao41 y335.length co41 : Value).ownBlock) (.slice Ao41 y335.length co41) y335 t338 t341 t342 w0 _ ?side1 ?side2 A34.out).mono ?_); (case side1 => exact below_at HB.out); (case side2 => exact Kd.R_tight rfl HO337.out); rintro e w42 ⟨v339, rfl, ho0, hb, hkp⟩; have HO340 := mk_ (Kd.R_mono (ok' := fun k_ => (P2_ k_ ∨ w.heap.size ≤ k_) ∧ some k_ ≠ (.slice Ao36 l2.length co36 : Value).ownBlock) ho0 (fun k_ hk_ => ⟨Or.elim hk_ (fun hs_ => (HO337.out.1 k_ (hs_).symm).1) (fun hn_ => (.inr (Nat.le_trans (kp_ HK.out).1 hn_))), Or.elim hk_ (fun hs_ => fun e_ => (((HO_2.out).1 k_ e_.symm).2) hs_) (fun hn_ => (Kd.fresh' (Kd.R_lt (Kd.R_below HO_2.out lt_)) k_ hn_))⟩)); replace HO_2 := mk_ (Kd.R_mono (ok' := fun k_ => (P2_ k_ ∨ w.heap.size ≤ k_) ∧ some k_ ≠ (v339 : Value).ownBlock) (Kd.R_keptB (HO_2.out) hkp (fun k_ hk_ hs_ => (hk_.2) hs_)) (fun k_ hk_ => ⟨hk_.1.1, fun e_ => Or.elim (ho0.1 k_ e_.symm) (fun hs_ => hk_.2.1 hs_) (fun hn_ => Nat.not_le.2 hk_.2.2 hn_)⟩)); replace HK := mk_ (Kept.then_ (S := (fun k_ => P2_ k_)) (kp_ HK.out) hkp (fun k_ hs_ => (fun e_ => (HO337.out.1 k_ e_.symm).1) hs_)); replace HB := mk_ (hb); (try clear HO337); (try clear hb); (try clear hkp); (try clear ho0)))
  repeat (go_quiet (first | ((with_reducible refine gate_dst (N := 86) rfl ?_); (try (refine gate_guard (by rfl) ?_; dsimp only)); refine Kd.R_lit k68 _ 68 ?hg (N := 86) ?hd (xs := ([] : List (S68))) (inner := []) (ok := fun _ => True) (okp := fun _ => True) ?hr ?hp (fun _ hk => hk) trivial (Below.refl _ _) (Nat.le_refl _) (by simp) ?_; (case hd => rfl); (case hg => rfl); (case hr => first | (go_simp; done) | (go_simp; rfl)); (case hp => exact (Reps.none _ _)); intro v330 w37 ho38 hb hg_ hnew_; clear hg_ hnew_; (first | rw [← Ny329.out] at ho38 | (simp only [Int.reduceToNat] at ho38; rw [← Ny329.out] at ho38)); have n0_ := mk_ (Kd.R_elder' (Kd.R_below HO_2.out lt_) (Kd.R_base ho38) hb); have n1_ := mk_ (Kd.R_lower (Kd.R_new' (Kd.R_newM (M := fun k_ => (P2_ k_ ∨ w.heap.size ≤ k_)) ho38 (kp_ HK.out).1 (fun k_ h_ => .inr h_)) (Kd.R_lt (Kd.R_below HO_2.out lt_))) (below_size (below_at HB.out))); have n2_ := mk_ (Kept.below (S := (fun k_ => P2_ k_)) (kp_ HK.out) hb); have n3_ := mk_ (below_step (below_at HB.out) hb); clear HO_2; clear HK; clear HB; have HO_2 := n0_; have HO331 := n1_; have HK := n2_; have HB := n3_; clear n0_ n1_ n2_ n3_; clear hb ho38) | ((with_reducible refine gate_builtin (b := .append) (xs := #[.tmp 86, .tmp 87]) rfl ?_); (try (refine gate_guard (by rfl) ?_; dsimp only)); at_builtin; refine Kd.R_append_rows k68 (w0 := w0) w0.heap.size rfl (.tmp 86) (.tmp 87) 25 68 (.agg #[(.int .i64 0), (.int .i64 0), (.int .i64 0)]) 24 rfl Tryd.underlying25 info68 rfl (by decide) (by omega) v330 y329 l2 _ _ _ (fun k_ => (P2_ k_ ∨ w.heap.size ≤ k_) ∧ some k_ ≠ (.slice Ao36 l2.length co36 : Value).ownBlock) (fun _ => False) rfl rfl ?aO ?aR (fun _ _ h => h) (fun _ h => h.elim) ?aF ?aB ?aS ?aL ?_; (case aR => exact Kd.C_below (Kd.R_reads' HO_2.out).2.2 lt_); (case aB => exact (below_at HB.out)); (case aF => exact (fun k_ hk => ⟨(.inr (Nat.le_trans (kp_ HK.out).1 hk)), Kd.fresh' (Kd.R_lt (Kd.R_below HO_2.out lt_)) k_ hk⟩)); (case aO => exact (Kd.R_below (Kd.R_mono HO331.out (fun _ hk => ⟨hk.1.1, hk.2⟩)) lt_)); (case aS => exact (below_size (below_at HB.out))); (case aL => have := LMc32.out; omega); intro v333 w39 ho hb hg hat; rw [← Ny332.out] at ho; have n0_ := mk_ (Kd.R_after (ok := (fun k_ => (P2_ k_ ∨ w.heap.size ≤ k_))) (Kd.R_below HO_2.out lt_) hg hat); have n1_ := mk_ (hb); have n2_ := mk_ (Kept.of_grown (S := (fun k_ => P2_ k_)) hg (kp_ HK.out) (fun k_ e_ => (HO331.out.1 k_ e_).1.1)); have n3_ := mk_ (ho); clear HO_2; clear HB; clear HK; clear HO331; have HO_2 := n0_; have HB := n1_; have HK := n2_; have HO334 := n3_; clear n0_ n1_ n2_ n3_; clear ho hb hg hat) | ((with_reducible refine gate_builtin (b := .append) (xs := #[.tmp 88, .tmp 91]) rfl ?_); (try (refine gate_guard (by rfl) ?_; dsimp only)); at_builtin; refine Kd.R_append k68 (w0 := w0) w0.heap.size rfl (.tmp 88) (.tmp 91) 25 68 (.agg #[(.int .i64 0), (.int .i64 0), (.int .i64 0)]) 24 rfl Tryd.underlying25 info68 rfl (by decide) (by omega) v333 y332 (⟨((bt a0 a1) - 97) % 256, (-1), (-1)⟩ : S68) [.int .i64 (((bt a0 a1) - 97) % 256), .int .i64 (-1), .int .i64 (-1)] (fun k_ => (P2_ k_ ∨ w.heap.size ≤ k_) ∧ some k_ ≠ (.slice Ao36 l2.length co36 : Value).ownBlock) (fun _ => False) rfl rfl ?aP (fun _ hk => hk.elim) ?aF ?aO ?aB ?aS ?aL ?_; (case aP => exact k68_mkM _ _ _ (⟨((bt a0 a1) - 97) % 256, (-1), (-1)⟩ : S68)); (case aB => exact (below_at HB.out)); (case aF => exact (fun k_ hk => ⟨(.inr (Nat.le_trans (kp_ HK.out).1 hk)), Kd.fresh' (Kd.R_lt (Kd.R_below HO_2.out lt_)) k_ hk⟩)); (case aO => exact (Kd.R_below HO334.out lt_)); (case aS => exact (below_size (below_at HB.out))); (case aL => have := LMc33.out; omega); intro v336 w40 ho hb hg hat; rw [← Ny335.out] at ho; have n0_ := mk_ (Kd.R_after (ok := (fun k_ => (P2_ k_ ∨ w.heap.size ≤ k_))) (Kd.R_below HO_2.out lt_) hg hat); have n1_ := mk_ (hb); have n2_ := mk_ (Kept.of_grown (S := (fun k_ => P2_ k_)) hg (kp_ HK.out) (fun k_ e_ => (HO334.out.1 k_ e_).1)); have n3_ := mk_ (ho); clear HO_2; clear HB; clear HK; clear HO334; have HO_2 := n0_; have HB := n1_; have HK := n2_; have HO337 := n3_; clear n0_ n1_ n2_ n3_; clear ho hb hg hat; obtain ⟨Ao41, co41, eo41⟩ := Kd.R_slice HO337.out; subst eo41) | (go_at_call 49; (with_reducible refine (ih kj8 (by have := HJ8.out; omega) a0 (wrap64 (a1 + 2)) (fun k_ => some k_ = (.slice Ao41 y335.length co41 : Value).ownBlock) (.slice Ao41 y335.length co41) y335 t338 t341 t342 w0 _ ?side1 ?side2 A34.out).mono ?_); (case side1 => exact below_at HB.out); (case side2 => exact Kd.R_tight rfl HO337.out); rintro e w42 ⟨v339, rfl, ho0, hb, hkp⟩; have n0_ := mk_ (Kd.R_mono (ok' := fun k_ => (P2_ k_ ∨ w.heap.size ≤ k_) ∧ some k_ ≠ (v339 : Value).ownBlock) (Kd.R_keptB (HO_2.out) hkp (fun k_ hk_ hs_ => (hk_.2) hs_)) (fun k_ hk_ => ⟨hk_.1.1, fun e_ => Or.elim (ho0.1 k_ e_.symm) (fun hs_ => hk_.2.1 hs_) (fun hn_ => Nat.not_le.2 hk_.2.2 hn_)⟩)); have n1_ := mk_ (Kd.R_mono (ok' := fun k_ => (P2_ k_ ∨ w.heap.size ≤ k_) ∧ some k_ ≠ (.slice Ao36 l2.length co36 : Value).ownBlock) ho0 (fun k_ hk_ => ⟨Or.elim hk_ (fun hs_ => (HO337.out.1 k_ (hs_).symm).1) (fun hn_ => (.inr (Nat.le_trans (kp_ HK.out).1 hn_))), Or.elim hk_ (fun hs_ => fun e_ => (((HO_2.out).1 k_ e_.symm).2) hs_) (fun hn_ => (Kd.fresh' (Kd.R_lt (Kd.R_below HO_2.out lt_)) k_ hn_))⟩)); have n2_ := mk_ (Kept.then_ (S := (fun k_ => P2_ k_)) (kp_ HK.out) hkp (fun k_ hs_ => (fun e_ => (HO337.out.1 k_ e_.symm).1) hs_)); have n3_ := mk_ (hb); clear HO_2; clear HK; clear HB; clear HO337; have HO_2 := n0_; have HO340 := n1_; have HK := n2_; have HB := n3_; clear n0_ n1_ n2_ n3_; (try clear hb); (try clear hkp); (try clear ho0))); go_upto_region 13 with (first | ((with_reducible refine gate_dst (N := 86) rfl ?_); (try (refine gate_guard (by rfl) ?_; dsimp only)); refine Kd.R_lit k68 _ 68 ?hg (N := 86) ?hd (xs := ([] : List (S68))) (inner := []) (ok := fun _ => True) (okp := fun _ => True) ?hr ?hp (fun _ hk => hk) trivial (Below.refl _ _) (Nat.le_refl _) (by simp) ?_; (case hd => rfl); (case hg => rfl); (case hr => first | (go_simp; done) | (go_simp; rfl)); (case hp => exact (Reps.none _ _)); intro v330 w37 ho38 hb hg_ hnew_; clear hg_ hnew_; (first | rw [← Ny329.out] at ho38 | (simp only [Int.reduceToNat] at ho38; rw [← Ny329.out] at ho38)); have HO331 := mk_ (Kd.R_lower (Kd.R_new' (Kd.R_newM (M := fun k_ => (P2_ k_ ∨ w.heap.size ≤ k_)) ho38 (kp_ HK.out).1 (fun k_ h_ => .inr h_)) (Kd.R_lt (Kd.R_below HO_2.out lt_))) (below_size (below_at HB.out))); replace HO_2 := mk_ (Kd.R_elder' (Kd.R_below HO_2.out lt_) (Kd.R_base ho38) hb); replace HK := mk_ (Kept.below (S := (fun k_ => P2_ k_)) (kp_ HK.out) hb); replace HB := mk_ (below_step (below_at HB.out) hb); clear hb ho38) | ((with_reducible refine gate_builtin (b := .append) (xs := #[.tmp 86, .tmp 87]) rfl ?_); (try (refine gate_guard (by rfl) ?_; dsimp only)); at_builtin; refine Kd.R_append_rows k68 (w0 := w0) w0.heap.size rfl (.tmp 86) (.tmp 87) 25 68 (.agg #[(.int .i64 0), (.int .i64 0), (.int .i64 0)]) 24 rfl Tryd.underlying25 info68 rfl (by decide) (by omega) v330 y329 l2 _ _ _ (fun k_ => (P2_ k_ ∨ w.heap.size ≤ k_) ∧ some k_ ≠ (.slice Ao36 l2.length co36 : Value).ownBlock) (fun _ => False) rfl rfl ?aO ?aR (fun _ _ h => h) (fun _ h => h.elim) ?aF ?aB ?aS ?aL ?_; (case aR => exact Kd.C_below (Kd.R_reads' HO_2.out).2.2 lt_); (case aB => exact (below_at HB.out)); (case aF => exact (fun k_ hk => ⟨(.inr (Nat.le_trans (kp_ HK.out).1 hk)), Kd.fresh' (Kd.R_lt (Kd.R_below HO_2.out lt_)) k_ hk⟩)); (case aO => exact (Kd.R_below (Kd.R_mono HO331.out (fun _ hk => ⟨hk.1.1, hk.2⟩)) lt_)); (case aS => exact (below_size (below_at HB.out))); (case aL => have := LMc32.out; omega); intro v333 w39 ho hb hg hat; rw [← Ny332.out] at ho; replace HO_2 := mk_ (Kd.R_after (ok := (fun k_ => (P2_ k_ ∨ w.heap.size ≤ k_))) (Kd.R_below HO_2.out lt_) hg hat); replace HB := mk_ (hb); replace HK := mk_ (Kept.of_grown (S := (fun k_ => P2_ k_)) hg (kp_ HK.out) (fun k_ e_ => (HO331.out.1 k_ e_).1.1)); have HO334 := mk_ (ho); (try clear HO331); clear ho hb hg hat) | ((with_reducible refine gate_builtin (b := .append) (xs := #[.tmp 88, .tmp 91]) rfl ?_); (try (refine gate_guard (by rfl) ?_; dsimp only)); at_builtin; refine Kd.R_append k68 (w0 := w0) w0.heap.size rfl (.tmp 88) (.tmp 91) 25 68 (.agg #[(.int .i64 0), (.int .i64 0), (.int .i64 0)]) 24 rfl Tryd.underlying25 info68 rfl (by decide) (by omega) v333 y332 (⟨((bt a0 a1) - 97) % 256, (-1), (-1)⟩ : S68) [.int .i64 (((bt a0 a1) - 97) % 256), .int .i64 (-1), .int .i64 (-1)] (fun k_ => (P2_ k_ ∨ w.heap.size ≤ k_) ∧ some k_ ≠ (.slice Ao36 l2.length co36 : Value).ownBlock) (fun _ => False) rfl rfl ?aP (fun _ hk => hk.elim) ?aF ?aO ?aB ?aS ?aL ?_; (case aP => exact k68_mkM _ _ _ (⟨((bt a0 a1) - 97) % 256, (-1), (-1)⟩ : S68)); (case aB => exact (below_at HB.out)); (case aF => exact (fun k_ hk => ⟨(.inr (Nat.le_trans (kp_ HK.out).1 hk)), Kd.fresh' (Kd.R_lt (Kd.R_below HO_2.out lt_)) k_ hk⟩)); (case aO => exact (Kd.R_below HO334.out lt_)); (case aS => exact (below_size (below_at HB.out))); (case aL => have := LMc33.out; omega); intro v336 w40 ho hb hg hat; rw [← Ny335.out] at ho; replace HO_2 := mk_ (Kd.R_after (ok := (fun k_ => (P2_ k_ ∨ w.heap.size ≤ k_))) (Kd.R_below HO_2.out lt_) hg hat); replace HB := mk_ (hb); replace HK := mk_ (Kept.of_grown (S := (fun k_ => P2_ k_)) hg (kp_ HK.out) (fun k_ e_ => (HO334.out.1 k_ e_).1)); have HO337 := mk_ (ho); (try clear HO334); clear ho hb hg hat; obtain ⟨Ao41, co41, eo41⟩ := Kd.R_slice HO337.out; subst eo41) | (go_at_call 49; (with_reducible refine (ih kj8 (by have := HJ8.out; omega) a0 (wrap64 (a1 + 2)) (fun k_ => some k_ = (.slice Ao41 y335.length co41 : Value).ownBlock) (.slice Ao41 y335.length co41) y335 t338 t341 t342 w0 _ ?side1 ?side2 A34.out).mono ?_); (case side1 => exact below_at HB.out); (case side2 => exact Kd.R_tight rfl HO337.out); rintro e w42 ⟨v339, rfl, ho0, hb, hkp⟩; have n0_ := mk_ (Kd.R_mono (ok' := fun k_ => (P2_ k_ ∨ w.heap.size ≤ k_) ∧ some k_ ≠ (v339 : Value).ownBlock) (Kd.R_keptB (HO_2.out) hkp (fun k_ hk_ hs_ => (hk_.2) hs_)) (fun k_ hk_ => ⟨hk_.1.1, fun e_ => Or.elim (ho0.1 k_ e_.symm) (fun hs_ => hk_.2.1 hs_) (fun hn_ => Nat.not_le.2 hk_.2.2 hn_)⟩)); have n1_ := mk_ (Kd.R_mono (ok' := fun k_ => (P2_ k_ ∨ w.heap.size ≤ k_) ∧ some k_ ≠ (.slice Ao36 l2.length co36 : Value).ownBlock) ho0 (fun k_ hk_ => ⟨Or.elim hk_ (fun hs_ => (HO337.out.1 k_ (hs_).symm).1) (fun hn_ => (.inr (Nat.le_trans (kp_ HK.out).1 hn_))), Or.elim hk_ (fun hs_ => fun e_ => (((HO_2.out).1 k_ e_.symm).2) hs_) (fun hn_ => (Kd.fresh' (Kd.R_lt (Kd.R_below HO_2.out lt_)) k_ hn_))⟩)); have n2_ := mk_ (Kept.then_ (S := (fun k_ => P2_ k_)) (kp_ HK.out) hkp (fun k_ hs_ => (fun e_ => (HO337.out.1 k_ e_.symm).1) hs_)); have n3_ := mk_ (hb); clear HO_2; clear HK; clear HB; clear HO337; have HO_2 := n0_; have HO340 := n1_; have HK := n2_; have HB := n3_; clear n0_ n1_ n2_ n3_; (try clear hb); (try clear hkp); (try clear ho0))))
  (try simp only [Act.put, z0_, z1_, z2_])
  go_cut [115] (fun v115 wc => ∃ (kq : Nat) (x115_34 : Bool), v115 = .bool x115_34 ∧ Aside0 (spec_l11Read.j1 kq a0 t338 (l2.length : Int) (((bt a0 a1) - 97) % 256) t341 t342 x115_34 = some (r1, r2, r3)) ∧ Aside0 (kq ≤ kj8) ∧ Aside0 (Kd.R k68 68 wc w0.heap.size (fun k_ => (P2_ k_ ∨ w.heap.size ≤ k_)) v339 t338) ∧ Aside0 (Kept w wc (fun k_ => P2_ k_)) ∧ Aside0 (Below w0.heap.size w0 wc))
  case first =>
   have H := HC35.out
   clear HC35
   by_cases c43 : t342 < 0
   ·rw [if_pos c43] at H
    have c43b0 : decide (t342 < 0) = true := decide_eq_true c43
    clear c43
    (first | rw [c43b0] | (simp only [i64_w, i32_w]; rw [c43b0]) | skip)
    have H' := mk_ H
    clear H
    go_wp2
    repeat (go_quiet (fail); try go_wp2)
    (try subst hji24)
    go_meet
    case rel => exact ⟨_, (true), sm_, H', ⟨by have := HJ8.out; first | omega | exact Nat.le_refl _⟩, ⟨Kd.R_below (Kd.R_mono HO340.out (fun _ hk => hk.1)) lt_⟩, ⟨kp_ HK.out⟩, ⟨below_at HB.out⟩⟩
   rw [if_neg c43] at H
   have c43b0 : decide (t342 < 0) = false := decide_eq_false c43
   clear c43
   (first | rw [c43b0] | (simp only [i64_w, i32_w]; rw [c43b0]) | skip)
   by_cases c44 : t342 ≥ (a0.size : Int)
   ·rw [if_pos c44] at H
    have c44b0 : decide ((a0.size : Int) ≤ t342) = true := decide_eq_true c44
    clear c44
    have H' := mk_ H
    clear H
    go_wp2
    repeat (go_quiet (fail); try go_wp2)
    (try subst hji24)
    go_meet
    case rel => exact ⟨_, (true), sm_, H', ⟨by have := HJ8.out; first | omega | exact Nat.le_refl _⟩, ⟨Kd.R_below (Kd.R_mono HO340.out (fun _ hk => hk.1)) lt_⟩, ⟨kp_ HK.out⟩, ⟨below_at HB.out⟩⟩
   rw [if_neg c44] at H
   have c44b0 : decide ((a0.size : Int) ≤ t342) = false := decide_eq_false c44
   clear c44
   by_cases c45 : 0 ≤ t342
   rotate_left
   ·rw [if_neg c45] at H
    exact absurd H (by simp)
   rw [if_pos c45] at H
   have c45b0 : decide (0 ≤ t342) = true := decide_eq_true c45
   clear c45
   by_cases c46 : t342 < (a0.size : Int)
   rotate_left
   ·rw [if_neg c46] at H
    exact absurd H (by simp)
   rw [if_pos c46] at H
   have c46b0 : decide (t342 < (a0.size : Int)) = true := decide_eq_true c46
   clear c46
   have H' := mk_ H
   clear H
   have p47 : 0 ≤ (t342 : Int) := oa_
   have q47 : t342 < (a0.size : Int) := oa_
   have hx47 := bt_at a0 t342
   replace p47 := eq_true p47
   replace q47 := eq_true q47
   go_wp2
   repeat (go_quiet (fail); try go_wp2)
   (try subst hji24)
   go_meet
   case rel => exact ⟨_, (((bt a0 t342) != 44)), sm_, H', ⟨by have := HJ8.out; first | omega | exact Nat.le_refl _⟩, ⟨Kd.R_below (Kd.R_mono HO340.out (fun _ hk => hk.1)) lt_⟩, ⟨kp_ HK.out⟩, ⟨below_at HB.out⟩⟩
  clear HC35
  try clear c1
  try clear p1
  try clear q1
  try clear hx1
  try clear c2
  try clear p2
  try clear q2
  try clear hx2
  try clear c3
  try clear p3
  try clear q3
  try clear hx3
  try clear c4
  try clear c4b0
  try clear p4
  try clear q4
  try clear hx4
  try clear c5
  try clear c5b0
  try clear c6
  try clear c6b0
  try clear p6
  try clear p7
  try clear q7
  try clear hx7
  try clear c8
  try clear c8b0
  try clear c8b1
  try clear p10
  try clear q10
  try clear hx10
  try clear c11
  try clear c11b0
  try clear p12
  try clear q12
  try clear hx12
  try clear c13
  try clear c14
  try clear c14b0
  try clear c15
  try clear c15b0
  try clear p16
  try clear q16
  try clear hx16
  try clear c17
  try clear c17b0
  try clear c18
  try clear c18b0
  try clear p19
  try clear q19
  try clear hx19
  try clear c20
  try clear c20b0
  try clear p21
  try clear q21
  try clear hx21
  try clear c22
  try clear c22b0
  try clear c23
  try clear c23b0
  try clear c25
  try clear c25b0
  try clear c26
  try clear c26b0
  try clear p27
  try clear q27
  try clear hx27
  try clear c28
  try clear c28b0
  try clear c28b1
  try clear c29
  try clear c29b0
  try clear c29b1
  try clear p31
  try clear q31
  try clear hx31
  try clear c32
  try clear c33
  try clear c43
  try clear c43b0
  try clear c44
  try clear c44b0
  try clear c45
  try clear c45b0
  try clear c46
  try clear c46b0
  try clear p47
  try clear q47
  try clear hx47
  try clear p1
  try clear p10
  try clear p12
  try clear p16
  try clear p19
  try clear p2
  try clear p21
  try clear p27
  try clear p31
  try clear p47
  try clear p6
  try clear p7
  try clear q1
  try clear q10
  try clear q12
  try clear q16
  try clear q19
  try clear q21
  try clear q27
  try clear q31
  try clear q47
  try clear q7
  obtain ⟨kq, x115_34, rfl, HA, HJ34, HO_2, HK, HB⟩ := hcut
  cases kq with
  | zero => exact absurd HA.out (by simp [spec_l11Read.j1])
  | succ kj34 =>
   have H := HA.out
   clear HA
   simp only [spec_l11Read.j1] at H
   by_cases c48 : x115_34 = true
   ·subst c48
    rw [if_pos rfl] at H
    simp only [Option.some.injEq, Prod.mk.injEq] at H
    obtain ⟨rfl, rfl, rfl⟩ := H
    go_wp2
    repeat (go_quiet (fail); try go_wp2)
    go_ret3
    exact ⟨_, by first | rfl | (simp [errW_none, errW_some] <;> rfl) | (simp only [← hji24]; first | rfl | (simp [errW_none, errW_some] <;> rfl)) | (simp [*, errW_none, errW_some] <;> rfl), rl_ HO_2.out, below_at HB.out, kp_ HK.out⟩
   replace c48 := Bool.eq_false_iff.mpr c48
   subst c48
   rw [if_neg Bool.false_ne_true] at H
   replace H := Option.bind_eq_some_iff.mp H
   obtain ⟨⟨t343, t346, t347⟩, A490, H⟩ := H
   try dsimp only at H
   have A49 := mk_ A490
   clear A490
   by_cases c50 : t347 < 0
   ·rw [if_pos c50] at H
    have c50b0 : decide (t347 < 0) = true := decide_eq_true c50
    clear c50
    simp only [Option.some.injEq, Prod.mk.injEq] at H
    obtain ⟨rfl, rfl, rfl⟩ := H
    obtain ⟨Ao51, co51, eo51⟩ := Kd.R_slice HO_2.out
    subst eo51
    go_wp2_with (first | (go_at_call 49; (with_reducible refine (ih kj34 (by have := HJ8.out; have := HJ34.out; omega) a0 (wrap64 (t342 + 1)) (fun k_ => some k_ = (.slice Ao51 t338.length co51 : Value).ownBlock) (.slice Ao51 t338.length co51) t338 t343 t346 t347 w0 _ ?side1 ?side2 A49.out).mono ?_); (case side1 => exact below_at HB.out); (case side2 => exact Kd.R_tight rfl HO_2.out); rintro e w52 ⟨v344, rfl, ho0, hb, hkp⟩; have HO345 := mk_ (Kd.R_mono (ok' := fun k_ => (P2_ k_ ∨ w.heap.size ≤ k_)) ho0 (fun k_ hk_ => Or.elim hk_ (fun hs_ => (HO_2.out.1 k_ (hs_).symm)) (fun hn_ => (.inr (Nat.le_trans (kp_ HK.out).1 hn_))))); replace HK := mk_ (Kept.then_ (S := (fun k_ => P2_ k_)) (kp_ HK.out) hkp (fun k_ hs_ => (fun e_ => (HO_2.out.1 k_ e_.symm)) hs_)); replace HB := mk_ (hb); (try clear HO_2); (try clear hb); (try clear hkp); (try clear ho0)))
    repeat (go_quiet (first | (go_at_call 49; (with_reducible refine (ih kj34 (by have := HJ8.out; have := HJ34.out; omega) a0 (wrap64 (t342 + 1)) (fun k_ => some k_ = (.slice Ao51 t338.length co51 : Value).ownBlock) (.slice Ao51 t338.length co51) t338 t343 t346 t347 w0 _ ?side1 ?side2 A49.out).mono ?_); (case side1 => exact below_at HB.out); (case side2 => exact Kd.R_tight rfl HO_2.out); rintro e w52 ⟨v344, rfl, ho0, hb, hkp⟩; have n0_ := mk_ (Kd.R_mono (ok' := fun k_ => (P2_ k_ ∨ w.heap.size ≤ k_)) ho0 (fun k_ hk_ => Or.elim hk_ (fun hs_ => (HO_2.out.1 k_ (hs_).symm)) (fun hn_ => (.inr (Nat.le_trans (kp_ HK.out).1 hn_))))); have n1_ := mk_ (Kept.then_ (S := (fun k_ => P2_ k_)) (kp_ HK.out) hkp (fun k_ hs_ => (fun e_ => (HO_2.out.1 k_ e_.symm)) hs_)); have n2_ := mk_ (hb); clear HK; clear HB; clear HO_2; have HO345 := n0_; have HK := n1_; have HB := n2_; clear n0_ n1_ n2_; (try clear hb); (try clear hkp); (try clear ho0))); try go_wp2_with (first | (go_at_call 49; (with_reducible refine (ih kj34 (by have := HJ8.out; have := HJ34.out; omega) a0 (wrap64 (t342 + 1)) (fun k_ => some k_ = (.slice Ao51 t338.length co51 : Value).ownBlock) (.slice Ao51 t338.length co51) t338 t343 t346 t347 w0 _ ?side1 ?side2 A49.out).mono ?_); (case side1 => exact below_at HB.out); (case side2 => exact Kd.R_tight rfl HO_2.out); rintro e w52 ⟨v344, rfl, ho0, hb, hkp⟩; have n0_ := mk_ (Kd.R_mono (ok' := fun k_ => (P2_ k_ ∨ w.heap.size ≤ k_)) ho0 (fun k_ hk_ => Or.elim hk_ (fun hs_ => (HO_2.out.1 k_ (hs_).symm)) (fun hn_ => (.inr (Nat.le_trans (kp_ HK.out).1 hn_))))); have n1_ := mk_ (Kept.then_ (S := (fun k_ => P2_ k_)) (kp_ HK.out) hkp (fun k_ hs_ => (fun e_ => (HO_2.out.1 k_ e_.symm)) hs_)); have n2_ := mk_ (hb); clear HK; clear HB; clear HO_2; have HO345 := n0_; have HK := n1_; have HB := n2_; clear n0_ n1_ n2_; (try clear hb); (try clear hkp); (try clear ho0))))
    go_ret3
    exact ⟨_, by first | rfl | (simp [errW_none, errW_some] <;> rfl) | (simp only [← hji24]; first | rfl | (simp [errW_none, errW_some] <;> rfl)) | (simp [*, errW_none, errW_some] <;> rfl), rl_ HO345.out, below_at HB.out, kp_ HK.out⟩
   rw [if_neg c50] at H
   have c50b0 : decide (t347 < 0) = false := decide_eq_false c50
   clear c50
   by_cases c53 : t347 ≥ (a0.size : Int)
   ·rw [if_pos c53] at H
    have c53b0 : decide ((a0.size : Int) ≤ t347) = true := decide_eq_true c53
    clear c53
    simp only [Option.some.injEq, Prod.mk.injEq] at H
    obtain ⟨rfl, rfl, rfl⟩ := H
    obtain ⟨Ao54, co54, eo54⟩ := Kd.R_slice HO_2.out
    subst eo54
    go_wp2_with (first | (go_at_call 49; (with_reducible refine (ih kj34 (by have := HJ8.out; have := HJ34.out; omega) a0 (wrap64 (t342 + 1)) (fun k_ => some k_ = (.slice Ao54 t338.length co54 : Value).ownBlock) (.slice Ao54 t338.length co54) t338 t343 t346 t347 w0 _ ?side1 ?side2 A49.out).mono ?_); (case side1 => exact below_at HB.out); (case side2 => exact Kd.R_tight rfl HO_2.out); rintro e w55 ⟨v344, rfl, ho0, hb, hkp⟩; have HO345 := mk_ (Kd.R_mono (ok' := fun k_ => (P2_ k_ ∨ w.heap.size ≤ k_)) ho0 (fun k_ hk_ => Or.elim hk_ (fun hs_ => (HO_2.out.1 k_ (hs_).symm)) (fun hn_ => (.inr (Nat.le_trans (kp_ HK.out).1 hn_))))); replace HK := mk_ (Kept.then_ (S := (fun k_ => P2_ k_)) (kp_ HK.out) hkp (fun k_ hs_ => (fun e_ => (HO_2.out.1 k_ e_.symm)) hs_)); replace HB := mk_ (hb); (try clear HO_2); (try clear hb); (try clear hkp); (try clear ho0)))
    repeat (go_quiet (first | (go_at_call 49; (with_reducible refine (ih kj34 (by have := HJ8.out; have := HJ34.out; omega) a0 (wrap64 (t342 + 1)) (fun k_ => some k_ = (.slice Ao54 t338.length co54 : Value).ownBlock) (.slice Ao54 t338.length co54) t338 t343 t346 t347 w0 _ ?side1 ?side2 A49.out).mono ?_); (case side1 => exact below_at HB.out); (case side2 => exact Kd.R_tight rfl HO_2.out); rintro e w55 ⟨v344, rfl, ho0, hb, hkp⟩; have n0_ := mk_ (Kd.R_mono (ok' := fun k_ => (P2_ k_ ∨ w.heap.size ≤ k_)) ho0 (fun k_ hk_ => Or.elim hk_ (fun hs_ => (HO_2.out.1 k_ (hs_).symm)) (fun hn_ => (.inr (Nat.le_trans (kp_ HK.out).1 hn_))))); have n1_ := mk_ (Kept.then_ (S := (fun k_ => P2_ k_)) (kp_ HK.out) hkp (fun k_ hs_ => (fun e_ => (HO_2.out.1 k_ e_.symm)) hs_)); have n2_ := mk_ (hb); clear HK; clear HB; clear HO_2; have HO345 := n0_; have HK := n1_; have HB := n2_; clear n0_ n1_ n2_; (try clear hb); (try clear hkp); (try clear ho0))); try go_wp2_with (first | (go_at_call 49; (with_reducible refine (ih kj34 (by have := HJ8.out; have := HJ34.out; omega) a0 (wrap64 (t342 + 1)) (fun k_ => some k_ = (.slice Ao54 t338.length co54 : Value).ownBlock) (.slice Ao54 t338.length co54) t338 t343 t346 t347 w0 _ ?side1 ?side2 A49.out).mono ?_); (case side1 => exact below_at HB.out); (case side2 => exact Kd.R_tight rfl HO_2.out); rintro e w55 ⟨v344, rfl, ho0, hb, hkp⟩; have n0_ := mk_ (Kd.R_mono (ok' := fun k_ => (P2_ k_ ∨ w.heap.size ≤ k_)) ho0 (fun k_ hk_ => Or.elim hk_ (fun hs_ => (HO_2.out.1 k_ (hs_).symm)) (fun hn_ => (.inr (Nat.le_trans (kp_ HK.out).1 hn_))))); have n1_ := mk_ (Kept.then_ (S := (fun k_ => P2_ k_)) (kp_ HK.out) hkp (fun k_ hs_ => (fun e_ => (HO_2.out.1 k_ e_.symm)) hs_)); have n2_ := mk_ (hb); clear HK; clear HB; clear HO_2; have HO345 := n0_; have HK := n1_; have HB := n2_; clear n0_ n1_ n2_; (try clear hb); (try clear hkp); (try clear ho0))))
    go_ret3
    exact ⟨_, by first | rfl | (simp [errW_none, errW_some] <;> rfl) | (simp only [← hji24]; first | rfl | (simp [errW_none, errW_some] <;> rfl)) | (simp [*, errW_none, errW_some] <;> rfl), rl_ HO345.out, below_at HB.out, kp_ HK.out⟩
   rw [if_neg c53] at H
   have c53b0 : decide ((a0.size : Int) ≤ t347) = false := decide_eq_false c53
   clear c53
   by_cases c56 : 0 ≤ t347
   rotate_left
   ·rw [if_neg c56] at H
    exact absurd H (by simp)
   rw [if_pos c56] at H
   have c56b0 : decide (0 ≤ t347) = true := decide_eq_true c56
   clear c56
   by_cases c57 : t347 < (a0.size : Int)
   rotate_left
   ·rw [if_neg c57] at H
    exact absurd H (by simp)
   rw [if_pos c57] at H
   have c57b0 : decide (t347 < (a0.size : Int)) = true := decide_eq_true c57
   clear c57
   by_cases c59 : (bt a0 t347) = 41
   rotate_left
   ·rw [if_neg c59] at H
    have c59b0 : ((bt a0 t347) == 41) = false := beq_eq_false_iff_ne.mpr c59
    have c59b1 : ((bt a0 t347) != 41) = true := bne_iff_ne.mpr c59
    simp only [Option.some.injEq, Prod.mk.injEq] at H
    obtain ⟨rfl, rfl, rfl⟩ := H
    obtain ⟨Ao67, co67, eo67⟩ := Kd.R_slice HO_2.out
    subst eo67
    go_wp2_with (first | (go_at_call 49; (with_reducible refine (ih kj34 (by have := HJ8.out; have := HJ34.out; omega) a0 (wrap64 (t342 + 1)) (fun k_ => some k_ = (.slice Ao67 t338.length co67 : Value).ownBlock) (.slice Ao67 t338.length co67) t338 t343 t346 t347 w0 _ ?side1 ?side2 A49.out).mono ?_); (case side1 => exact below_at HB.out); (case side2 => exact Kd.R_tight rfl HO_2.out); rintro e w68 ⟨v344, rfl, ho0, hb, hkp⟩; have HO345 := mk_ (Kd.R_mono (ok' := fun k_ => (P2_ k_ ∨ w.heap.size ≤ k_)) ho0 (fun k_ hk_ => Or.elim hk_ (fun hs_ => (HO_2.out.1 k_ (hs_).symm)) (fun hn_ => (.inr (Nat.le_trans (kp_ HK.out).1 hn_))))); replace HK := mk_ (Kept.then_ (S := (fun k_ => P2_ k_)) (kp_ HK.out) hkp (fun k_ hs_ => (fun e_ => (HO_2.out.1 k_ e_.symm)) hs_)); replace HB := mk_ (hb); (try clear HO_2); (try clear hb); (try clear hkp); (try clear ho0); have p58 : 0 ≤ (t347 : Int) := oa_; have q58 : t347 < (a0.size : Int) := oa_; have hx58 := bt_at a0 t347; replace p58 := eq_true p58; replace q58 := eq_true q58))
    repeat (go_quiet (first | (go_at_call 49; (with_reducible refine (ih kj34 (by have := HJ8.out; have := HJ34.out; omega) a0 (wrap64 (t342 + 1)) (fun k_ => some k_ = (.slice Ao67 t338.length co67 : Value).ownBlock) (.slice Ao67 t338.length co67) t338 t343 t346 t347 w0 _ ?side1 ?side2 A49.out).mono ?_); (case side1 => exact below_at HB.out); (case side2 => exact Kd.R_tight rfl HO_2.out); rintro e w68 ⟨v344, rfl, ho0, hb, hkp⟩; have n0_ := mk_ (Kd.R_mono (ok' := fun k_ => (P2_ k_ ∨ w.heap.size ≤ k_)) ho0 (fun k_ hk_ => Or.elim hk_ (fun hs_ => (HO_2.out.1 k_ (hs_).symm)) (fun hn_ => (.inr (Nat.le_trans (kp_ HK.out).1 hn_))))); have n1_ := mk_ (Kept.then_ (S := (fun k_ => P2_ k_)) (kp_ HK.out) hkp (fun k_ hs_ => (fun e_ => (HO_2.out.1 k_ e_.symm)) hs_)); have n2_ := mk_ (hb); clear HK; clear HB; clear HO_2; have HO345 := n0_; have HK := n1_; have HB := n2_; clear n0_ n1_ n2_; (try clear hb); (try clear hkp); (try clear ho0); have p58 : 0 ≤ (t347 : Int) := oa_; have q58 : t347 < (a0.size : Int) := oa_; have hx58 := bt_at a0 t347; replace p58 := eq_true p58; replace q58 := eq_true q58)); try go_wp2_with (first | (go_at_call 49; (with_reducible refine (ih kj34 (by have := HJ8.out; have := HJ34.out; omega) a0 (wrap64 (t342 + 1)) (fun k_ => some k_ = (.slice Ao67 t338.length co67 : Value).ownBlock) (.slice Ao67 t338.length co67) t338 t343 t346 t347 w0 _ ?side1 ?side2 A49.out).mono ?_); (case side1 => exact below_at HB.out); (case side2 => exact Kd.R_tight rfl HO_2.out); rintro e w68 ⟨v344, rfl, ho0, hb, hkp⟩; have n0_ := mk_ (Kd.R_mono (ok' := fun k_ => (P2_ k_ ∨ w.heap.size ≤ k_)) ho0 (fun k_ hk_ => Or.elim hk_ (fun hs_ => (HO_2.out.1 k_ (hs_).symm)) (fun hn_ => (.inr (Nat.le_trans (kp_ HK.out).1 hn_))))); have n1_ := mk_ (Kept.then_ (S := (fun k_ => P2_ k_)) (kp_ HK.out) hkp (fun k_ hs_ => (fun e_ => (HO_2.out.1 k_ e_.symm)) hs_)); have n2_ := mk_ (hb); clear HK; clear HB; clear HO_2; have HO345 := n0_; have HK := n1_; have HB := n2_; clear n0_ n1_ n2_; (try clear hb); (try clear hkp); (try clear ho0); have p58 : 0 ≤ (t347 : Int) := oa_; have q58 : t347 < (a0.size : Int) := oa_; have hx58 := bt_at a0 t347; replace p58 := eq_true p58; replace q58 := eq_true q58)))
    go_ret3
    exact ⟨_, by first | rfl | (simp [errW_none, errW_some] <;> rfl) | (simp only [← hji24]; first | rfl | (simp [errW_none, errW_some] <;> rfl)) | (simp [*, errW_none, errW_some] <;> rfl), rl_ HO345.out, below_at HB.out, kp_ HK.out⟩
   rw [if_pos c59] at H
   have c59b0 : ((bt a0 t347) == 41) = true := beq_iff_eq.mpr c59
   have c59b1 : ((bt a0 t347) != 41) = false := bne_eq_false_iff_eq.mpr c59
   clear c59
   by_cases c60 : 0 ≤ (l2.length : Int)
   rotate_left
   ·rw [if_neg c60] at H
    exact absurd H (by simp)
   rw [if_pos c60] at H
   have c60b0 : decide (0 ≤ (l2.length : Int)) = true := decide_eq_true c60
   have c60b1 : decide (0 ≤ l2.length) = true := decide_eq_true (by omega)
   clear c60
   by_cases c61 : (l2.length : Int) < (t343.length : Int)
   rotate_left
   ·rw [if_neg c61] at H
    exact absurd H (by simp)
   rw [if_pos c61] at H
   have c61b0 : decide ((l2.length : Int) < (t343.length : Int)) = true := decide_eq_true c61
   have c61b1 : decide (l2.length < t343.length) = true := decide_eq_true (Int.ofNat_lt.mp c61)
   clear c61
   obtain ⟨y348, hy348⟩ : ∃ y_ : List (S68), y_ = (t343.set ((l2.length : Int) : Int).toNat (⟨(((bt a0 a1) - 97) % 256), t341, t346⟩ : S68)) := ⟨_, rfl⟩
   first | (replace H := bn_ hy348 H; try dsimp only at H) | rw [← hy348] at H
   have Ny348 := mk_ hy348
   clear hy348
   simp only [Option.some.injEq, Prod.mk.injEq] at H
   obtain ⟨rfl, rfl, rfl⟩ := H
   obtain ⟨Ao63, co63, eo63⟩ := Kd.R_slice HO_2.out
   subst eo63
   go_wp2_with (first | (go_at_call 49; (with_reducible refine (ih kj34 (by have := HJ8.out; have := HJ34.out; omega) a0 (wrap64 (t342 + 1)) (fun k_ => some k_ = (.slice Ao63 t338.length co63 : Value).ownBlock) (.slice Ao63 t338.length co63) t338 t343 t346 t347 w0 _ ?side1 ?side2 A49.out).mono ?_); (case side1 => exact below_at HB.out); (case side2 => exact Kd.R_tight rfl HO_2.out); rintro e w64 ⟨v344, rfl, ho0, hb, hkp⟩; have HO345 := mk_ (Kd.R_mono (ok' := fun k_ => (P2_ k_ ∨ w.heap.size ≤ k_)) ho0 (fun k_ hk_ => Or.elim hk_ (fun hs_ => (HO_2.out.1 k_ (hs_).symm)) (fun hn_ => (.inr (Nat.le_trans (kp_ HK.out).1 hn_))))); replace HK := mk_ (Kept.then_ (S := (fun k_ => P2_ k_)) (kp_ HK.out) hkp (fun k_ hs_ => (fun e_ => (HO_2.out.1 k_ e_.symm)) hs_)); replace HB := mk_ (hb); (try clear HO_2); (try clear hb); (try clear hkp); (try clear ho0); have p58 : 0 ≤ (t347 : Int) := oa_; have q58 : t347 < (a0.size : Int) := oa_; have hx58 := bt_at a0 t347; replace p58 := eq_true p58; replace q58 := eq_true q58; have p62 : 0 ≤ ((l2.length : Int) : Int) := oa_; have q62 : ((l2.length : Int) : Int) < ((t343.length : Int) : Int) := oa_; obtain ⟨go62, co62, eo62, gb62, gl62, cl62, HG62⟩ := Kd.R_form HO345.out (by omega); (first | cases eo62 | (injection eo62 with ea_ en_ ec_; (first | subst ea_ | (injection ea_ with ea_; subst ea_)); subst ec_; clear en_)); have GB62 := mk_ gb62; have GG62 := mk_ HG62; clear gb62 gl62 HG62; have HMgo62 := mk_ (show (P2_ go62 ∨ w.heap.size ≤ go62) from (HO345.out.1 _ rfl)); obtain ⟨ce62, hcl62, hM62, hcc62, hfr62⟩ := Kd.R_elem HO345.out z68 ((l2.length : Int) : Int) p62 q62; obtain rfl := k68_openM hM62; have hx62_0 : w64.cell? ⟨go62, l2.length * 3, none⟩ = some (.int .i64 ((rd_T68 t343 (l2.length : Int)).f0)) := hcc62 0 _ rfl; have hx62_1 : w64.cell? ⟨go62, l2.length * 3 + 1, none⟩ = some (.int .i64 ((rd_T68 t343 (l2.length : Int)).f1)) := hcc62 1 _ rfl; have hx62_2 : w64.cell? ⟨go62, l2.length * 3 + 2, none⟩ = some (.int .i64 ((rd_T68 t343 (l2.length : Int)).f2)) := hcc62 2 _ rfl; have hf62_0 : w64.frozen? ⟨go62, l2.length * 3, none⟩ = false := hfr62 0; have hf62_1 : w64.frozen? ⟨go62, l2.length * 3 + 1, none⟩ = false := hfr62 1; have hf62_2 : w64.frozen? ⟨go62, l2.length * 3 + 2, none⟩ = false := hfr62 2; (try clear hM62); clear hcl62 hcc62 hfr62; replace p62 := eq_true p62; replace q62 := eq_true q62; have HX65 := mk_ (show Kd.R k68 68 w64 w0.heap.size (fun k_ => (P2_ k_ ∨ w.heap.size ≤ k_)) (.slice (some ⟨go62, 0, none⟩) t343.length co62) t343 from (Kd.R_below HO345.out lt_)); obtain ⟨ce65, hcl65, hM65, hcc65, hfr65⟩ := Kd.R_elem HX65.out z68 ((l2.length : Int) : Int) (oa_) (by have h_ : ((l2.length : Int) : Int) < ((t343.length : Int) : Int) := oa_; first | exact h_ | (have e_ := (Kd.R_reads' HO345.out).1; omega) | simpa using h_); obtain rfl := k68_openM hM65; have HP65 := Kd.R_seg HX65.out ((l2.length : Int) : Int) (oa_) (by have h_ : ((l2.length : Int) : Int) < ((t343.length : Int) : Int) := oa_; first | exact h_ | (have e_ := (Kd.R_reads' HO345.out).1; omega) | simpa using h_) (seg := [.int .i64 (((bt a0 a1) - 97) % 256), .int .i64 t341, .int .i64 t346]) (j := 0) hcl65 hcc65 (show 3 ≤ 3 from by decide) (x' := (⟨(((bt a0 a1) - 97) % 256), t341, t346⟩ : S68)) (k68_mkM _ _ _ (⟨(((bt a0 a1) - 97) % 256), t341, t346⟩ : S68) ) (fun _ hk => hk); have hx65_0 := hcc65 0 _ rfl; (try simp only [show (k68).sz = 3 from rfl, Nat.mul_one, Nat.add_zero, Int.toNat_natCast] at hx65_0); have hf65_0 := hfr65 0; (try simp only [show (k68).sz = 3 from rfl, Nat.mul_one, Nat.add_zero, Int.toNat_natCast] at hf65_0); have hx65_1 := hcc65 1 _ rfl; (try simp only [show (k68).sz = 3 from rfl, Nat.mul_one, Nat.add_zero, Int.toNat_natCast] at hx65_1); have hf65_1 := hfr65 1; (try simp only [show (k68).sz = 3 from rfl, Nat.mul_one, Nat.add_zero, Int.toNat_natCast] at hf65_1); have hx65_2 := hcc65 2 _ rfl; (try simp only [show (k68).sz = 3 from rfl, Nat.mul_one, Nat.add_zero, Int.toNat_natCast] at hx65_2); have hf65_2 := hfr65 2; (try simp only [show (k68).sz = 3 from rfl, Nat.mul_one, Nat.add_zero, Int.toNat_natCast] at hf65_2); (try clear hM65); clear hcl65 hcc65 hfr65) | ((with_reducible refine gate_store (t := 68) (p := 147) rfl ?_); (try (rw [drewN_self w64]; generalize hq_ : World.drewN w64 _ = w64; have n0_ := mk_ (Kd.R_at hq_ HO345.out); have n1_ := mk_ (kept_at hq_ HK.out); have n2_ := mk_ (below_at hq_ HB.out); clear hq_ HO345 HK HB; have HO345 := n0_; have HK := n1_; have HB := n2_; clear n0_ n1_ n2_; (try (have HX65 := mk_ (show Kd.R k68 68 w64 w0.heap.size (fun k_ => (P2_ k_ ∨ w.heap.size ≤ k_)) (.slice (some ⟨go62, 0, none⟩) t343.length co62) t343 from (Kd.R_below HO345.out lt_)))); (try (obtain ⟨ce65, hcl65, hM65, hcc65, hfr65⟩ := Kd.R_elem HX65.out z68 ((l2.length : Int) : Int) (oa_) (by have h_ : ((l2.length : Int) : Int) < ((t343.length : Int) : Int) := oa_; first | exact h_ | (have e_ := (Kd.R_reads' HO345.out).1; omega) | simpa using h_))); (try (obtain rfl := k68_openM hM65)); (try (have HP65 := Kd.R_seg HX65.out ((l2.length : Int) : Int) (oa_) (by have h_ : ((l2.length : Int) : Int) < ((t343.length : Int) : Int) := oa_; first | exact h_ | (have e_ := (Kd.R_reads' HO345.out).1; omega) | simpa using h_) (seg := [.int .i64 (((bt a0 a1) - 97) % 256), .int .i64 t341, .int .i64 t346]) (j := 0) hcl65 hcc65 (show 3 ≤ 3 from by decide) (x' := (⟨(((bt a0 a1) - 97) % 256), t341, t346⟩ : S68)) (k68_mkM _ _ _ (⟨(((bt a0 a1) - 97) % 256), t341, t346⟩ : S68) ) (fun _ hk => hk))); (try (have hx65_0 := hcc65 0 _ rfl)); (try (try simp only [show (k68).sz = 3 from rfl, Nat.mul_one, Nat.add_zero, Int.toNat_natCast] at hx65_0)); (try (have hf65_0 := hfr65 0)); (try (try simp only [show (k68).sz = 3 from rfl, Nat.mul_one, Nat.add_zero, Int.toNat_natCast] at hf65_0)); (try (have hx65_1 := hcc65 1 _ rfl)); (try (try simp only [show (k68).sz = 3 from rfl, Nat.mul_one, Nat.add_zero, Int.toNat_natCast] at hx65_1)); (try (have hf65_1 := hfr65 1)); (try (try simp only [show (k68).sz = 3 from rfl, Nat.mul_one, Nat.add_zero, Int.toNat_natCast] at hf65_1)); (try (have hx65_2 := hcc65 2 _ rfl)); (try (try simp only [show (k68).sz = 3 from rfl, Nat.mul_one, Nat.add_zero, Int.toNat_natCast] at hx65_2)); (try (have hf65_2 := hfr65 2)); (try (try simp only [show (k68).sz = 3 from rfl, Nat.mul_one, Nat.add_zero, Int.toNat_natCast] at hf65_2)); (try ((try clear hM65); clear hcl65 hcc65 hfr65)))); refine store_event (t := 68) (p := 147) (v := ?vo_w66) (w1 := (((w64.setCell ⟨go62, l2.length * 3, none⟩ (.int .i64 (((bt a0 a1) - 97) % 256))).setCell ⟨go62, l2.length * 3 + 1, none⟩ (.int .i64 t341)).setCell ⟨go62, l2.length * 3 + 2, none⟩ (.int .i64 t346))) ?hg ?ho ?hn ?hr ?_; (case ho => rfl); (case hg => rfl); (case hn => rfl); (case hr => first | (go_simp; done) | (go_simp; rfl)); intro w66 hw; have hg : w64.grownBy w66 (some go62) := (by rw [hw]; exact HP65.2); have hp_ : Kd.R k68 68 w66 w0.heap.size (fun k_ => (P2_ k_ ∨ w.heap.size ≤ k_)) (.slice (some ⟨go62, 0, none⟩) t343.length co62) y348 := (by rw [hw, Ny348.out]; exact HP65.1); clear HP65; replace HB := mk_ ((by rw [hw]; exact below_set (below_set (below_set (HB.out) GB62.out) GB62.out) GB62.out : Below w0.heap.size w0 w66)); replace HK := mk_ (Kept.of_grown (S := (fun k_ => P2_ k_)) hg (kp_ HK.out) (fun k_ e_ => (HO345.out.1 k_ e_))); replace HO345 := mk_ (hp_); clear hg hw hp_))
   repeat (go_quiet (first | (go_at_call 49; (with_reducible refine (ih kj34 (by have := HJ8.out; have := HJ34.out; omega) a0 (wrap64 (t342 + 1)) (fun k_ => some k_ = (.slice Ao63 t338.length co63 : Value).ownBlock) (.slice Ao63 t338.length co63) t338 t343 t346 t347 w0 _ ?side1 ?side2 A49.out).mono ?_); (case side1 => exact below_at HB.out); (case side2 => exact Kd.R_tight rfl HO_2.out); rintro e w64 ⟨v344, rfl, ho0, hb, hkp⟩; have n0_ := mk_ (Kd.R_mono (ok' := fun k_ => (P2_ k_ ∨ w.heap.size ≤ k_)) ho0 (fun k_ hk_ => Or.elim hk_ (fun hs_ => (HO_2.out.1 k_ (hs_).symm)) (fun hn_ => (.inr (Nat.le_trans (kp_ HK.out).1 hn_))))); have n1_ := mk_ (Kept.then_ (S := (fun k_ => P2_ k_)) (kp_ HK.out) hkp (fun k_ hs_ => (fun e_ => (HO_2.out.1 k_ e_.symm)) hs_)); have n2_ := mk_ (hb); clear HK; clear HB; clear HO_2; have HO345 := n0_; have HK := n1_; have HB := n2_; clear n0_ n1_ n2_; (try clear hb); (try clear hkp); (try clear ho0); have p58 : 0 ≤ (t347 : Int) := oa_; have q58 : t347 < (a0.size : Int) := oa_; have hx58 := bt_at a0 t347; replace p58 := eq_true p58; replace q58 := eq_true q58; have p62 : 0 ≤ ((l2.length : Int) : Int) := oa_; have q62 : ((l2.length : Int) : Int) < ((t343.length : Int) : Int) := oa_; obtain ⟨go62, co62, eo62, gb62, gl62, cl62, HG62⟩ := Kd.R_form HO345.out (by omega); (first | cases eo62 | (injection eo62 with ea_ en_ ec_; (first | subst ea_ | (injection ea_ with ea_; subst ea_)); subst ec_; clear en_)); have GB62 := mk_ gb62; have GG62 := mk_ HG62; clear gb62 gl62 HG62; have HMgo62 := mk_ (show (P2_ go62 ∨ w.heap.size ≤ go62) from (HO345.out.1 _ rfl)); obtain ⟨ce62, hcl62, hM62, hcc62, hfr62⟩ := Kd.R_elem HO345.out z68 ((l2.length : Int) : Int) p62 q62; obtain rfl := k68_openM hM62; have hx62_0 : w64.cell? ⟨go62, l2.length * 3, none⟩ = some (.int .i64 ((rd_T68 t343 (l2.length : Int)).f0)) := hcc62 0 _ rfl; have hx62_1 : w64.cell? ⟨go62, l2.length * 3 + 1, none⟩ = some (.int .i64 ((rd_T68 t343 (l2.length : Int)).f1)) := hcc62 1 _ rfl; have hx62_2 : w64.cell? ⟨go62, l2.length * 3 + 2, none⟩ = some (.int .i64 ((rd_T68 t343 (l2.length : Int)).f2)) := hcc62 2 _ rfl; have hf62_0 : w64.frozen? ⟨go62, l2.length * 3, none⟩ = false := hfr62 0; have hf62_1 : w64.frozen? ⟨go62, l2.length * 3 + 1, none⟩ = false := hfr62 1; have hf62_2 : w64.frozen? ⟨go62, l2.length * 3 + 2, none⟩ = false := hfr62 2; (try clear hM62); clear hcl62 hcc62 hfr62; replace p62 := eq_true p62; replace q62 := eq_true q62; have HX65 := mk_ (show Kd.R k68 68 w64 w0.heap.size (fun k_ => (P2_ k_ ∨ w.heap.size ≤ k_)) (.slice (some ⟨go62, 0, none⟩) t343.length co62) t343 from (Kd.R_below HO345.out lt_)); obtain ⟨ce65, hcl65, hM65, hcc65, hfr65⟩ := Kd.R_elem HX65.out z68 ((l2.length : Int) : Int) (oa_) (by have h_ : ((l2.length : Int) : Int) < ((t343.length : Int) : Int) := oa_; first | exact h_ | (have e_ := (Kd.R_reads' HO345.out).1; omega) | simpa using h_); obtain rfl := k68_openM hM65; have HP65 := Kd.R_seg HX65.out ((l2.length : Int) : Int) (oa_) (by have h_ : ((l2.length : Int) : Int) < ((t343.length : Int) : Int) := oa_; first | exact h_ | (have e_ := (Kd.R_reads' HO345.out).1; omega) | simpa using h_) (seg := [.int .i64 (((bt a0 a1) - 97) % 256), .int .i64 t341, .int .i64 t346]) (j := 0) hcl65 hcc65 (show 3 ≤ 3 from by decide) (x' := (⟨(((bt a0 a1) - 97) % 256), t341, t346⟩ : S68)) (k68_mkM _ _ _ (⟨(((bt a0 a1) - 97) % 256), t341, t346⟩ : S68) ) (fun _ hk => hk); have hx65_0 := hcc65 0 _ rfl; (try simp only [show (k68).sz = 3 from rfl, Nat.mul_one, Nat.add_zero, Int.toNat_natCast] at hx65_0); have hf65_0 := hfr65 0; (try simp only [show (k68).sz = 3 from rfl, Nat.mul_one, Nat.add_zero, Int.toNat_natCast] at hf65_0); have hx65_1 := hcc65 1 _ rfl; (try simp only [show (k68).sz = 3 from rfl, Nat.mul_one, Nat.add_zero, Int.toNat_natCast] at hx65_1); have hf65_1 := hfr65 1; (try simp only [show (k68).sz = 3 from rfl, Nat.mul_one, Nat.add_zero, Int.toNat_natCast] at hf65_1); have hx65_2 := hcc65 2 _ rfl; (try simp only [show (k68).sz = 3 from rfl, Nat.mul_one, Nat.add_zero, Int.toNat_natCast] at hx65_2); have hf65_2 := hfr65 2; (try simp only [show (k68).sz = 3 from rfl, Nat.mul_one, Nat.add_zero, Int.toNat_natCast] at hf65_2); (try clear hM65); clear hcl65 hcc65 hfr65) | ((with_reducible refine gate_store (t := 68) (p := 147) rfl ?_); (try (rw [drewN_self w64]; generalize hq_ : World.drewN w64 _ = w64; have n0_ := mk_ (Kd.R_at hq_ HO345.out); have n1_ := mk_ (kept_at hq_ HK.out); have n2_ := mk_ (below_at hq_ HB.out); clear hq_ HO345 HK HB; have HO345 := n0_; have HK := n1_; have HB := n2_; clear n0_ n1_ n2_; (try (have HX65 := mk_ (show Kd.R k68 68 w64 w0.heap.size (fun k_ => (P2_ k_ ∨ w.heap.size ≤ k_)) (.slice (some ⟨go62, 0, none⟩) t343.length co62) t343 from (Kd.R_below HO345.out lt_)))); (try (obtain ⟨ce65, hcl65, hM65, hcc65, hfr65⟩ := Kd.R_elem HX65.out z68 ((l2.length : Int) : Int) (oa_) (by have h_ : ((l2.length : Int) : Int) < ((t343.length : Int) : Int) := oa_; first | exact h_ | (have e_ := (Kd.R_reads' HO345.out).1; omega) | simpa using h_))); (try (obtain rfl := k68_openM hM65)); (try (have HP65 := Kd.R_seg HX65.out ((l2.length : Int) : Int) (oa_) (by have h_ : ((l2.length : Int) : Int) < ((t343.length : Int) : Int) := oa_; first | exact h_ | (have e_ := (Kd.R_reads' HO345.out).1; omega) | simpa using h_) (seg := [.int .i64 (((bt a0 a1) - 97) % 256), .int .i64 t341, .int .i64 t346]) (j := 0) hcl65 hcc65 (show 3 ≤ 3 from by decide) (x' := (⟨(((bt a0 a1) - 97) % 256), t341, t346⟩ : S68)) (k68_mkM _ _ _ (⟨(((bt a0 a1) - 97) % 256), t341, t346⟩ : S68) ) (fun _ hk => hk))); (try (have hx65_0 := hcc65 0 _ rfl)); (try (try simp only [show (k68).sz = 3 from rfl, Nat.mul_one, Nat.add_zero, Int.toNat_natCast] at hx65_0)); (try (have hf65_0 := hfr65 0)); (try (try simp only [show (k68).sz = 3 from rfl, Nat.mul_one, Nat.add_zero, Int.toNat_natCast] at hf65_0)); (try (have hx65_1 := hcc65 1 _ rfl)); (try (try simp only [show (k68).sz = 3 from rfl, Nat.mul_one, Nat.add_zero, Int.toNat_natCast] at hx65_1)); (try (have hf65_1 := hfr65 1)); (try (try simp only [show (k68).sz = 3 from rfl, Nat.mul_one, Nat.add_zero, Int.toNat_natCast] at hf65_1)); (try (have hx65_2 := hcc65 2 _ rfl)); (try (try simp only [show (k68).sz = 3 from rfl, Nat.mul_one, Nat.add_zero, Int.toNat_natCast] at hx65_2)); (try (have hf65_2 := hfr65 2)); (try (try simp only [show (k68).sz = 3 from rfl, Nat.mul_one, Nat.add_zero, Int.toNat_natCast] at hf65_2)); (try ((try clear hM65); clear hcl65 hcc65 hfr65)))); refine store_event (t := 68) (p := 147) (v := ?vo_w66) (w1 := (((w64.setCell ⟨go62, l2.length * 3, none⟩ (.int .i64 (((bt a0 a1) - 97) % 256))).setCell ⟨go62, l2.length * 3 + 1, none⟩ (.int .i64 t341)).setCell ⟨go62, l2.length * 3 + 2, none⟩ (.int .i64 t346))) ?hg ?ho ?hn ?hr ?_; (case ho => rfl); (case hg => rfl); (case hn => rfl); (case hr => first | (go_simp; done) | (go_simp; rfl)); intro w66 hw; have hg : w64.grownBy w66 (some go62) := (by rw [hw]; exact HP65.2); have hp_ : Kd.R k68 68 w66 w0.heap.size (fun k_ => (P2_ k_ ∨ w.heap.size ≤ k_)) (.slice (some ⟨go62, 0, none⟩) t343.length co62) y348 := (by rw [hw, Ny348.out]; exact HP65.1); clear HP65; have n0_ := mk_ (hp_); have n1_ := mk_ ((by rw [hw]; exact below_set (below_set (below_set (HB.out) GB62.out) GB62.out) GB62.out : Below w0.heap.size w0 w66)); have n2_ := mk_ (Kept.of_grown (S := (fun k_ => P2_ k_)) hg (kp_ HK.out) (fun k_ e_ => (HO345.out.1 k_ e_))); clear HO345; clear HB; clear HK; have HO345 := n0_; have HB := n1_; have HK := n2_; clear n0_ n1_ n2_; clear hg hw hp_)); try go_wp2_with (first | (go_at_call 49; (with_reducible refine (ih kj34 (by have := HJ8.out; have := HJ34.out; omega) a0 (wrap64 (t342 + 1)) (fun k_ => some k_ = (.slice Ao63 t338.length co63 : Value).ownBlock) (.slice Ao63 t338.length co63) t338 t343 t346 t347 w0 _ ?side1 ?side2 A49.out).mono ?_); (case side1 => exact below_at HB.out); (case side2 => exact Kd.R_tight rfl HO_2.out); rintro e w64 ⟨v344, rfl, ho0, hb, hkp⟩; have HO345 := mk_ (Kd.R_mono (ok' := fun k_ => (P2_ k_ ∨ w.heap.size ≤ k_)) ho0 (fun k_ hk_ => Or.elim hk_ (fun hs_ => (HO_2.out.1 k_ (hs_).symm)) (fun hn_ => (.inr (Nat.le_trans (kp_ HK.out).1 hn_))))); replace HK := mk_ (Kept.then_ (S := (fun k_ => P2_ k_)) (kp_ HK.out) hkp (fun k_ hs_ => (fun e_ => (HO_2.out.1 k_ e_.symm)) hs_)); replace HB := mk_ (hb); (try clear HO_2); (try clear hb); (try clear hkp); (try clear ho0); have p58 : 0 ≤ (t347 : Int) := oa_; have q58 : t347 < (a0.size : Int) := oa_; have hx58 := bt_at a0 t347; replace p58 := eq_true p58; replace q58 := eq_true q58; have p62 : 0 ≤ ((l2.length : Int) : Int) := oa_; have q62 : ((l2.length : Int) : Int) < ((t343.length : Int) : Int) := oa_; obtain ⟨go62, co62, eo62, gb62, gl62, cl62, HG62⟩ := Kd.R_form HO345.out (by omega); (first | cases eo62 | (injection eo62 with ea_ en_ ec_; (first | subst ea_ | (injection ea_ with ea_; subst ea_)); subst ec_; clear en_)); have GB62 := mk_ gb62; have GG62 := mk_ HG62; clear gb62 gl62 HG62; have HMgo62 := mk_ (show (P2_ go62 ∨ w.heap.size ≤ go62) from (HO345.out.1 _ rfl)); obtain ⟨ce62, hcl62, hM62, hcc62, hfr62⟩ := Kd.R_elem HO345.out z68 ((l2.length : Int) : Int) p62 q62; obtain rfl := k68_openM hM62; have hx62_0 : w64.cell? ⟨go62, l2.length * 3, none⟩ = some (.int .i64 ((rd_T68 t343 (l2.length : Int)).f0)) := hcc62 0 _ rfl; have hx62_1 : w64.cell? ⟨go62, l2.length * 3 + 1, none⟩ = some (.int .i64 ((rd_T68 t343 (l2.length : Int)).f1)) := hcc62 1 _ rfl; have hx62_2 : w64.cell? ⟨go62, l2.length * 3 + 2, none⟩ = some (.int .i64 ((rd_T68 t343 (l2.length : Int)).f2)) := hcc62 2 _ rfl; have hf62_0 : w64.frozen? ⟨go62, l2.length * 3, none⟩ = false := hfr62 0; have hf62_1 : w64.frozen? ⟨go62, l2.length * 3 + 1, none⟩ = false := hfr62 1; have hf62_2 : w64.frozen? ⟨go62, l2.length * 3 + 2, none⟩ = false := hfr62 2; (try clear hM62); clear hcl62 hcc62 hfr62; replace p62 := eq_true p62; replace q62 := eq_true q62; have HX65 := mk_ (show Kd.R k68 68 w64 w0.heap.size (fun k_ => (P2_ k_ ∨ w.heap.size ≤ k_)) (.slice (some ⟨go62, 0, none⟩) t343.length co62) t343 from (Kd.R_below HO345.out lt_)); obtain ⟨ce65, hcl65, hM65, hcc65, hfr65⟩ := Kd.R_elem HX65.out z68 ((l2.length : Int) : Int) (oa_) (by have h_ : ((l2.length : Int) : Int) < ((t343.length : Int) : Int) := oa_; first | exact h_ | (have e_ := (Kd.R_reads' HO345.out).1; omega) | simpa using h_); obtain rfl := k68_openM hM65; have HP65 := Kd.R_seg HX65.out ((l2.length : Int) : Int) (oa_) (by have h_ : ((l2.length : Int) : Int) < ((t343.length : Int) : Int) := oa_; first | exact h_ | (have e_ := (Kd.R_reads' HO345.out).1; omega) | simpa using h_) (seg := [.int .i64 (((bt a0 a1) - 97) % 256), .int .i64 t341, .int .i64 t346]) (j := 0) hcl65 hcc65 (show 3 ≤ 3 from by decide) (x' := (⟨(((bt a0 a1) - 97) % 256), t341, t346⟩ : S68)) (k68_mkM _ _ _ (⟨(((bt a0 a1) - 97) % 256), t341, t346⟩ : S68) ) (fun _ hk => hk); have hx65_0 := hcc65 0 _ rfl; (try simp only [show (k68).sz = 3 from rfl, Nat.mul_one, Nat.add_zero, Int.toNat_natCast] at hx65_0); have hf65_0 := hfr65 0; (try simp only [show (k68).sz = 3 from rfl, Nat.mul_one, Nat.add_zero, Int.toNat_natCast] at hf65_0); have hx65_1 := hcc65 1 _ rfl; (try simp only [show (k68).sz = 3 from rfl, Nat.mul_one, Nat.add_zero, Int.toNat_natCast] at hx65_1); have hf65_1 := hfr65 1; (try simp only [show (k68).sz = 3 from rfl, Nat.mul_one, Nat.add_zero, Int.toNat_natCast] at hf65_1); have hx65_2 := hcc65 2 _ rfl; (try simp only [show (k68).sz = 3 from rfl, Nat.mul_one, Nat.add_zero, Int.toNat_natCast] at hx65_2); have hf65_2 := hfr65 2; (try simp only [show (k68).sz = 3 from rfl, Nat.mul_one, Nat.add_zero, Int.toNat_natCast] at hf65_2); (try clear hM65); clear hcl65 hcc65 hfr65) | ((with_reducible refine gate_store (t := 68) (p := 147) rfl ?_); (try (rw [drewN_self w64]; generalize hq_ : World.drewN w64 _ = w64; have n0_ := mk_ (Kd.R_at hq_ HO345.out); have n1_ := mk_ (kept_at hq_ HK.out); have n2_ := mk_ (below_at hq_ HB.out); clear hq_ HO345 HK HB; have HO345 := n0_; have HK := n1_; have HB := n2_; clear n0_ n1_ n2_; (try (have HX65 := mk_ (show Kd.R k68 68 w64 w0.heap.size (fun k_ => (P2_ k_ ∨ w.heap.size ≤ k_)) (.slice (some ⟨go62, 0, none⟩) t343.length co62) t343 from (Kd.R_below HO345.out lt_)))); (try (obtain ⟨ce65, hcl65, hM65, hcc65, hfr65⟩ := Kd.R_elem HX65.out z68 ((l2.length : Int) : Int) (oa_) (by have h_ : ((l2.length : Int) : Int) < ((t343.length : Int) : Int) := oa_; first | exact h_ | (have e_ := (Kd.R_reads' HO345.out).1; omega) | simpa using h_))); (try (obtain rfl := k68_openM hM65)); (try (have HP65 := Kd.R_seg HX65.out ((l2.length : Int) : Int) (oa_) (by have h_ : ((l2.length : Int) : Int) < ((t343.length : Int) : Int) := oa_; first | exact h_ | (have e_ := (Kd.R_reads' HO345.out).1; omega) | simpa using h_) (seg := [.int .i64 (((bt a0 a1) - 97) % 256), .int .i64 t341, .int .i64 t346]) (j := 0) hcl65 hcc65 (show 3 ≤ 3 from by decide) (x' := (⟨(((bt a0 a1) - 97) % 256), t341, t346⟩ : S68)) (k68_mkM _ _ _ (⟨(((bt a0 a1) - 97) % 256), t341, t346⟩ : S68) ) (fun _ hk => hk))); (try (have hx65_0 := hcc65 0 _ rfl)); (try (try simp only [show (k68).sz = 3 from rfl, Nat.mul_one, Nat.add_zero, Int.toNat_natCast] at hx65_0)); (try (have hf65_0 := hfr65 0)); (try (try simp only [show (k68).sz = 3 from rfl, Nat.mul_one, Nat.add_zero, Int.toNat_natCast] at hf65_0)); (try (have hx65_1 := hcc65 1 _ rfl)); (try (try simp only [show (k68).sz = 3 from rfl, Nat.mul_one, Nat.add_zero, Int.toNat_natCast] at hx65_1)); (try (have hf65_1 := hfr65 1)); (try (try simp only [show (k68).sz = 3 from rfl, Nat.mul_one, Nat.add_zero, Int.toNat_natCast] at hf65_1)); (try (have hx65_2 := hcc65 2 _ rfl)); (try (try simp only [show (k68).sz = 3 from rfl, Nat.mul_one, Nat.add_zero, Int.toNat_natCast] at hx65_2)); (try (have hf65_2 := hfr65 2)); (try (try simp only [show (k68).sz = 3 from rfl, Nat.mul_one, Nat.add_zero, Int.toNat_natCast] at hf65_2)); (try ((try clear hM65); clear hcl65 hcc65 hfr65)))); refine store_event (t := 68) (p := 147) (v := ?vo_w66) (w1 := (((w64.setCell ⟨go62, l2.length * 3, none⟩ (.int .i64 (((bt a0 a1) - 97) % 256))).setCell ⟨go62, l2.length * 3 + 1, none⟩ (.int .i64 t341)).setCell ⟨go62, l2.length * 3 + 2, none⟩ (.int .i64 t346))) ?hg ?ho ?hn ?hr ?_; (case ho => rfl); (case hg => rfl); (case hn => rfl); (case hr => first | (go_simp; done) | (go_simp; rfl)); intro w66 hw; have hg : w64.grownBy w66 (some go62) := (by rw [hw]; exact HP65.2); have hp_ : Kd.R k68 68 w66 w0.heap.size (fun k_ => (P2_ k_ ∨ w.heap.size ≤ k_)) (.slice (some ⟨go62, 0, none⟩) t343.length co62) y348 := (by rw [hw, Ny348.out]; exact HP65.1); clear HP65; have n0_ := mk_ (hp_); have n1_ := mk_ ((by rw [hw]; exact below_set (below_set (below_set (HB.out) GB62.out) GB62.out) GB62.out : Below w0.heap.size w0 w66)); have n2_ := mk_ (Kept.of_grown (S := (fun k_ => P2_ k_)) hg (kp_ HK.out) (fun k_ e_ => (HO345.out.1 k_ e_))); clear HO345; clear HB; clear HK; have HO345 := n0_; have HB := n1_; have HK := n2_; clear n0_ n1_ n2_; clear hg hw hp_)))
   go_ret3
   exact ⟨_, by first | rfl | (simp [errW_none, errW_some] <;> rfl) | (simp only [← hji24]; first | rfl | (simp [errW_none, errW_some] <;> rfl)) | (simp [*, errW_none, errW_some] <;> rfl), rl_ HO345.out, below_at HB.out, kp_ HK.out⟩

/-! ### spec_ReadProof: function 22 -/
def spec_ReadProof.f (k : Nat) (a0 : Int) (l1 : List (S79)) (l2 : List (S82)) (a3 : ByteArray) : Option (Int × (List (S68)) × Bool) := if (a3.size : Int) > 200 then (some (0, ([] : List (S68)), false)) else ((spec_l11Read.f k a3 0 (([] : List (S68)))).bind fun bt353 => (if bt353.2.2 = (a3.size : Int) then ((spec_ProofText.f k a0 l1 l2 bt353.2.1 bt353.1).bind fun t359 => (if t359.toList = a3.toList then (some (bt353.2.1, bt353.1, true)) else (some (0, ([] : List (S68)), false)))) else (some (0, ([] : List (S68)), false))))
set_option maxHeartbeats 8000000 in
set_option maxRecDepth 100000 in
theorem spec_ReadProof.calls (k : Nat) (a0 : Int) (A1 : Option Addr) (c1 : Nat) (l1 : List (S79)) (A2 : Option Addr) (c2 : Nat) (l2 : List (S82)) (a3 : ByteArray) (r1 : Int) (r2 : List (S68)) (r3 : Bool) (w : World) (hr1 : Kd.C k79 w A1 l1.length l1) (hc1 : l1.length ≤ c1) (hr2 : Kd.C k82 w A2 l2.length l2) (hc2 : l2.length ≤ c2) (h : spec_ReadProof.f k a0 l1 l2 a3 = some (r1, r2, r3)) :
  Calls Tryd.prog 22 #[.int .i64 a0, .slice A1 l1.length c1, .slice A2 l2.length c2, .string a3] w fun e w' => ∃ v1_ : Value, e = .returned (.tuple #[.agg #[.int .i64 r1, v1_], .bool r3]) ∧ Kd.R k68 68 w' w.heap.size (fun _ => True) v1_ r2 ∧ Below w.heap.size w w' := by
 have hu27 := Tryd.underlying27
 have HR1 := mk_ hr1
 have HC1 := mk_ hc1
 clear hr1 hc1
 have HR2 := mk_ hr2
 have HC2 := mk_ hc2
 clear hr2 hc2
 have HB := mk_ (Below.refl w.heap.size w)
 unfold spec_ReadProof.f at h
 have H := h
 clear h
 by_cases c5 : (a3.size : Int) > 200
 ·rw [if_pos c5] at H
  have c5b0 : decide (200 < (a3.size : Int)) = true := decide_eq_true c5
  have c5b1 : decide (200 < a3.size) = true := decide_eq_true (by omega)
  clear c5
  simp only [Option.some.injEq, Prod.mk.injEq] at H
  obtain ⟨rfl, rfl, rfl⟩ := H
  go_enter Tryd.func22, Tryd.ntmps22
  go_wp2_with (first | ((with_reducible refine gate_dst (N := 8) rfl ?_); refine bx_ 8 #[.int .i64 0, .slice none 0 0] 27 ?_; intro gb349 hg w6 hbox hb; have BK349 := mk_ (hbox); have GW349 := mk_ (gb_ hg HB.out); have GE349 := mk_ (gb_ hg HB.out); replace HB := mk_ (below_step (below_at HB.out) hb); clear hb hbox hg; have hcz7_0 := blk_cell BK349.out 0; have hcz7_1 := blk_cell BK349.out 1; have hfz7_0 := blk_frozen BK349.out 0; have hfz7_1 := blk_frozen BK349.out 1))
  refine bodyPost_ret (results_ct rfl _ _ gb349 27 #[.int .i64 0, .slice none 0 0] (0, 0) _ rfl (by refine bs_ ?_; refine blk_put (cs := #[.int .i64 0, .slice none 0 0]) ?_ 1 _ rfl; refine bs_ ?_; refine blk_put (cs := #[.int .i64 0, .slice none 0 0]) ?_ 0 _ rfl; refine bs_ ?_; exact BK349.out) Tryd.underlying27 rfl (by kernel_rfl)) rfl ?_
  exact ⟨_, er_, by first | exact Kd.R_nil _ _ _ _ _ | exact Kd.N_nil _ _ _ _ _ | exact Kd.V_nil _ _ _ _ _ | exact Kd.Q_nil _ _ _ _ _ | exact Kd.S_nil _ _ _ _ _, at_ HB.out⟩
 rw [if_neg c5] at H
 have c5b0 : decide (200 < (a3.size : Int)) = false := decide_eq_false c5
 have c5b1 : decide (200 < a3.size) = false := decide_eq_false (by omega)
 clear c5
 obtain ⟨y350, hy350⟩ : ∃ y_ : List (S68), y_ = (([] : List (S68))) := ⟨_, rfl⟩
 replace H : ((spec_l11Read.f k a3 0 y350).bind fun bt353 => (if bt353.2.2 = (a3.size : Int) then ((spec_ProofText.f k a0 l1 l2 bt353.2.1 bt353.1).bind fun t359 => (if t359.toList = a3.toList then (some (bt353.2.1, bt353.1, true)) else (some (0, ([] : List (S68)), false)))) else (some (0, ([] : List (S68)), false)))) = some (r1, r2, r3) := by first | (rw [hy350]; exact H) | exact H
 have Ny350 := mk_ hy350
 clear hy350
 replace H := Option.bind_eq_some_iff.mp H
 obtain ⟨⟨t353, t356, t357⟩, A80, H⟩ := H
 try dsimp only at H
 have A8 := mk_ A80
 clear A80
 by_cases c9 : t357 = (a3.size : Int)
 rotate_left
 ·rw [if_neg c9] at H
  have c9b0 : (t357 == (a3.size : Int)) = false := beq_eq_false_iff_ne.mpr c9
  have c9b1 : (t357 != (a3.size : Int)) = true := bne_iff_ne.mpr c9
  simp only [Option.some.injEq, Prod.mk.injEq] at H
  obtain ⟨rfl, rfl, rfl⟩ := H
  go_enter Tryd.func22, Tryd.ntmps22
  go_wp2_with (first | ((with_reducible refine gate_dst (N := 8) rfl ?_); refine bx_ 8 #[.int .i64 0, .slice none 0 0] 27 ?_; intro gb349 hg w35 hbox hb; have BK349 := mk_ (hbox); have GW349 := mk_ (gb_ hg HB.out); have GE349 := mk_ (gb_ hg HB.out); replace HB := mk_ (below_step (below_at HB.out) hb); clear hb hbox hg) | ((with_reducible refine gate_dst (N := 20) rfl ?_); refine Kd.R_lit k68 _ 68 ?hg (N := 20) ?hd (xs := ([] : List (S68))) (inner := []) (ok := fun _ => True) (okp := fun _ => True) ?hr ?hp (fun _ hk => hk) trivial (Below.refl _ _) (Nat.le_refl _) (by simp) ?_; (case hd => rfl); (case hg => rfl); (case hr => first | (go_simp; done) | (go_simp; rfl)); (case hp => exact (Reps.none _ _)); intro v351 w36 ho37 hb hg_ hnew_; clear hg_ hnew_; (first | rw [← Ny350.out] at ho37 | (simp only [Int.reduceToNat] at ho37; rw [← Ny350.out] at ho37)); have HO352 := mk_ (Kd.R_lower ho37 (below_size (at_ HB.out))); replace BK349 := mk_ (blk_at BK349.out hb); replace HB := mk_ (below_step (at_ HB.out) hb); clear hb ho37; obtain ⟨Ao38, co38, eo38⟩ := Kd.R_slice HO352.out; subst eo38) | ((with_reducible refine gate_callee (f := 49) rfl ?_); refine goesL_ (some 21) rfl rfl Tryd.func49 (by kernel_rfl) rfl #[.string a3, .int .i64 0, .slice Ao38 y350.length co38] rfl gl_ ?_; (with_reducible refine (spec_l11Read.calls k a3 0 (fun k_ => some k_ = (.slice Ao38 y350.length co38 : Value).ownBlock) (.slice Ao38 y350.length co38) y350 t353 t356 t357 w _ ?side1 ?side2 A8.out).mono ?_); (case side1 => exact at_ HB.out); (case side2 => exact Kd.R_tight rfl HO352.out); rintro e w39 ⟨v354, rfl, ho0, hb, hkp⟩; refine ⟨_, rfl, ?_⟩; replace BK349 := mk_ (blk_kept (bk_ BK349.out) hkp (fun hs_ => (fun e_ => (Kd.R_ne HO352.out BK349.out (by decide)) e_) hs_)); have HO355 := mk_ (Kd.R_mono (ok' := fun k_ => True) ho0 (fun k_ hk_ => trivial)); replace HB := mk_ (hb); (try clear HO352); (try clear hb); (try clear hkp); (try clear ho0); obtain ⟨Ao40, co40, eo40⟩ := Kd.R_slice HO355.out; subst eo40) | ((with_reducible refine gate_dst (N := 13) rfl ?_); refine bx_ 13 #[.int .i64 0, .slice none 0 0] 27 ?_; intro gb358 hg w41 hbox hb; have BK358 := mk_ (hbox); have GW358 := mk_ ((by rw [hg]; exact (below_size (at_ HB.out)) : w.heap.size ≤ gb358)); have GE358 := mk_ ((by rw [hg]; exact (below_size (at_ HB.out)) : w.heap.size ≤ gb358)); replace HB := mk_ (below_step (at_ HB.out) hb); have NB349_358 := mk_ ((by rw [hg]; exact Nat.ne_of_lt (blk_lt (g := gb349) (o := .cells #[.int .i64 0, .slice none 0 0] 27 (0, 0)) (bk_ BK349.out)) : gb349 ≠ gb358)); have NB358_349 := mk_ ((by rw [hg]; exact Nat.ne_of_gt (blk_lt (g := gb349) (o := .cells #[.int .i64 0, .slice none 0 0] 27 (0, 0)) (bk_ BK349.out)) : gb358 ≠ gb349)); replace BK349 := mk_ (blk_at BK349.out hb); (try clear HO355); clear hb hbox hg; have hnb42 := NB358_349.out; have hnc42 := NB349_358.out; have hcz43_0 := blk_cell BK358.out 0; have hcz43_1 := blk_cell BK358.out 1; have hfz43_0 := blk_frozen BK358.out 0; have hfz43_1 := blk_frozen BK358.out 1; have hcz44_0 := blk_cell BK349.out 0; have hcz44_1 := blk_cell BK349.out 1; have hfz44_0 := blk_frozen BK349.out 0; have hfz44_1 := blk_frozen BK349.out 1))
  refine bodyPost_ret (results_ct rfl _ _ gb349 27 #[.int .i64 0, .slice none 0 0] (0, 0) _ rfl (by refine bs_ ?_; refine blk_put (cs := #[.int .i64 0, .slice none 0 0]) ?_ 1 _ rfl; refine bs_ ?_; refine blk_put (cs := #[.int .i64 0, .slice none 0 0]) ?_ 0 _ rfl; refine bs_ ?_; refine blk_far ?_ NB349_358.out _; refine bs_ ?_; refine blk_far ?_ NB349_358.out _; refine bs_ ?_; exact BK349.out) Tryd.underlying27 rfl (by kernel_rfl)) rfl ?_
  exact ⟨_, er_, by first | exact Kd.R_nil _ _ _ _ _ | exact Kd.N_nil _ _ _ _ _ | exact Kd.V_nil _ _ _ _ _ | exact Kd.Q_nil _ _ _ _ _ | exact Kd.S_nil _ _ _ _ _, at_ HB.out⟩
 rw [if_pos c9] at H
 have c9b0 : (t357 == (a3.size : Int)) = true := beq_iff_eq.mpr c9
 have c9b1 : (t357 != (a3.size : Int)) = false := bne_eq_false_iff_eq.mpr c9
 clear c9
 replace H := Option.bind_eq_some_iff.mp H
 obtain ⟨t359, A100, H⟩ := H
 try dsimp only at H
 have A10 := mk_ A100
 clear A100
 by_cases c11 : t359.toList = a3.toList
 rotate_left
 ·rw [if_neg c11] at H
  have c11b0 : (t359.toList == a3.toList) = false := beq_eq_false_iff_ne.mpr c11
  have c11b1 : (t359.toList != a3.toList) = true := bne_iff_ne.mpr c11
  simp only [Option.some.injEq, Prod.mk.injEq] at H
  obtain ⟨rfl, rfl, rfl⟩ := H
  go_enter Tryd.func22, Tryd.ntmps22
  go_wp2_with (first | ((with_reducible refine gate_dst (N := 8) rfl ?_); refine bx_ 8 #[.int .i64 0, .slice none 0 0] 27 ?_; intro gb349 hg w24 hbox hb; have BK349 := mk_ (hbox); have GW349 := mk_ (gb_ hg HB.out); have GE349 := mk_ (gb_ hg HB.out); replace HB := mk_ (below_step (below_at HB.out) hb); clear hb hbox hg) | ((with_reducible refine gate_dst (N := 20) rfl ?_); refine Kd.R_lit k68 _ 68 ?hg (N := 20) ?hd (xs := ([] : List (S68))) (inner := []) (ok := fun _ => True) (okp := fun _ => True) ?hr ?hp (fun _ hk => hk) trivial (Below.refl _ _) (Nat.le_refl _) (by simp) ?_; (case hd => rfl); (case hg => rfl); (case hr => first | (go_simp; done) | (go_simp; rfl)); (case hp => exact (Reps.none _ _)); intro v351 w25 ho26 hb hg_ hnew_; clear hg_ hnew_; (first | rw [← Ny350.out] at ho26 | (simp only [Int.reduceToNat] at ho26; rw [← Ny350.out] at ho26)); have HO352 := mk_ (Kd.R_lower ho26 (below_size (at_ HB.out))); replace BK349 := mk_ (blk_at BK349.out hb); replace HB := mk_ (below_step (at_ HB.out) hb); clear hb ho26; obtain ⟨Ao27, co27, eo27⟩ := Kd.R_slice HO352.out; subst eo27) | ((with_reducible refine gate_callee (f := 49) rfl ?_); refine goesL_ (some 21) rfl rfl Tryd.func49 (by kernel_rfl) rfl #[.string a3, .int .i64 0, .slice Ao27 y350.length co27] rfl gl_ ?_; (with_reducible refine (spec_l11Read.calls k a3 0 (fun k_ => some k_ = (.slice Ao27 y350.length co27 : Value).ownBlock) (.slice Ao27 y350.length co27) y350 t353 t356 t357 w _ ?side1 ?side2 A8.out).mono ?_); (case side1 => exact at_ HB.out); (case side2 => exact Kd.R_tight rfl HO352.out); rintro e w28 ⟨v354, rfl, ho0, hb, hkp⟩; refine ⟨_, rfl, ?_⟩; replace BK349 := mk_ (blk_kept (bk_ BK349.out) hkp (fun hs_ => (fun e_ => (Kd.R_ne HO352.out BK349.out (by decide)) e_) hs_)); have HO355 := mk_ (Kd.R_mono (ok' := fun k_ => True) ho0 (fun k_ hk_ => trivial)); replace HB := mk_ (hb); (try clear HO352); (try clear hb); (try clear hkp); (try clear ho0); obtain ⟨Ao29, co29, eo29⟩ := Kd.R_slice HO355.out; subst eo29) | ((with_reducible refine gate_dst (N := 13) rfl ?_); refine bx_ 13 #[.int .i64 0, .slice none 0 0] 27 ?_; intro gb358 hg w30 hbox hb; replace HO355 := mk_ (Kd.R_below (Kd.R_below HO355.out lt_) hb); have BK358 := mk_ (hbox); have GW358 := mk_ ((by rw [hg]; exact (below_size (at_ HB.out)) : w.heap.size ≤ gb358)); have GE358 := mk_ ((by rw [hg]; exact (below_size (at_ HB.out)) : w.heap.size ≤ gb358)); replace HB := mk_ (below_step (at_ HB.out) hb); have NB349_358 := mk_ ((by rw [hg]; exact Nat.ne_of_lt (blk_lt (g := gb349) (o := .cells #[.int .i64 0, .slice none 0 0] 27 (0, 0)) (bk_ BK349.out)) : gb349 ≠ gb358)); have NB358_349 := mk_ ((by rw [hg]; exact Nat.ne_of_gt (blk_lt (g := gb349) (o := .cells #[.int .i64 0, .slice none 0 0] 27 (0, 0)) (bk_ BK349.out)) : gb358 ≠ gb349)); replace BK349 := mk_ (blk_at BK349.out hb); clear hb hbox hg; have hnb31 := NB358_349.out; have hnc31 := NB349_358.out; have hcz32_0 := blk_cell BK358.out 0; have hcz32_1 := blk_cell BK358.out 1; have hfz32_0 := blk_frozen BK358.out 0; have hfz32_1 := blk_frozen BK358.out 1) | (go_at_call 9; (with_reducible refine (spec_ProofText.calls k a0 _ _ l1 _ _ l2 t356 _ _ t353 t359 _ ?side1 ?side2 ?side3 ?side4 ?side5 ?side6 A10.out).mono ?_); (case side1 => exact Kd.C_below HR1.out (at_ HB.out)); (case side2 => exact HC1.out); (case side3 => exact Kd.C_below HR2.out (at_ HB.out)); (case side4 => exact HC2.out); (case side5 => refine (Kd.R_reads' (e := 68) (base := w.heap.size) (ok := fun k_ => True) (n := t353.length) (c := co29) ?_).2.2; exact (by (with_reducible repeat (first | apply Kd.R_alloc | apply Kd.R_drewN | apply Kd.R_drew)); exact (Kd.R_mono (Kd.R_far (p := ⟨gb358, 1, none⟩) (Kd.R_far (p := ⟨gb358, 0, none⟩) (Kd.R_types HO355.out BK358.out (by decide)) (fun _ hk => hk.2) (.int .i64 t356)) (fun _ hk => hk.2) (.slice Ao29 t353.length co29)) (fun _ h_ => h_.1)))); (case side6 => exact (Kd.R_reads' HO355.out).2.1); rintro e w33 ⟨rfl, hb⟩; replace BK349 := mk_ (blk_below (g := gb349) (o := .cells #[.int .i64 0, .slice none 0 0] 27 (0, 0)) (by refine bs_ ?_; refine blk_far ?_ NB349_358.out _; refine bs_ ?_; refine blk_far ?_ NB349_358.out _; refine bs_ ?_; exact BK349.out) hb); replace HB := mk_ (below_step (at_ HB.out) hb); (try clear HO355 BK358); (try clear hb); (try clear hb2); (try clear hk); (try clear hi); have hcz34_0 := blk_cell BK349.out 0; have hcz34_1 := blk_cell BK349.out 1; have hfz34_0 := blk_frozen BK349.out 0; have hfz34_1 := blk_frozen BK349.out 1))
  refine bodyPost_ret (results_ct rfl _ _ gb349 27 #[.int .i64 0, .slice none 0 0] (0, 0) _ rfl (by refine bs_ ?_; refine blk_put (cs := #[.int .i64 0, .slice none 0 0]) ?_ 1 _ rfl; refine bs_ ?_; refine blk_put (cs := #[.int .i64 0, .slice none 0 0]) ?_ 0 _ rfl; refine bs_ ?_; exact BK349.out) Tryd.underlying27 rfl (by kernel_rfl)) rfl ?_
  exact ⟨_, er_, by first | exact Kd.R_nil _ _ _ _ _ | exact Kd.N_nil _ _ _ _ _ | exact Kd.V_nil _ _ _ _ _ | exact Kd.Q_nil _ _ _ _ _ | exact Kd.S_nil _ _ _ _ _, at_ HB.out⟩
 rw [if_pos c11] at H
 have c11b0 : (t359.toList == a3.toList) = true := beq_iff_eq.mpr c11
 have c11b1 : (t359.toList != a3.toList) = false := bne_eq_false_iff_eq.mpr c11
 clear c11
 simp only [Option.some.injEq, Prod.mk.injEq] at H
 obtain ⟨rfl, rfl, rfl⟩ := H
 go_enter Tryd.func22, Tryd.ntmps22
 go_wp2_with (first | ((with_reducible refine gate_dst (N := 8) rfl ?_); refine bx_ 8 #[.int .i64 0, .slice none 0 0] 27 ?_; intro gb349 hg w12 hbox hb; have BK349 := mk_ (hbox); have GW349 := mk_ (gb_ hg HB.out); have GE349 := mk_ (gb_ hg HB.out); replace HB := mk_ (below_step (below_at HB.out) hb); clear hb hbox hg) | ((with_reducible refine gate_dst (N := 20) rfl ?_); refine Kd.R_lit k68 _ 68 ?hg (N := 20) ?hd (xs := ([] : List (S68))) (inner := []) (ok := fun _ => True) (okp := fun _ => True) ?hr ?hp (fun _ hk => hk) trivial (Below.refl _ _) (Nat.le_refl _) (by simp) ?_; (case hd => rfl); (case hg => rfl); (case hr => first | (go_simp; done) | (go_simp; rfl)); (case hp => exact (Reps.none _ _)); intro v351 w13 ho14 hb hg_ hnew_; clear hg_ hnew_; (first | rw [← Ny350.out] at ho14 | (simp only [Int.reduceToNat] at ho14; rw [← Ny350.out] at ho14)); have HO352 := mk_ (Kd.R_lower ho14 (below_size (at_ HB.out))); replace BK349 := mk_ (blk_at BK349.out hb); replace HB := mk_ (below_step (at_ HB.out) hb); clear hb ho14; obtain ⟨Ao15, co15, eo15⟩ := Kd.R_slice HO352.out; subst eo15) | ((with_reducible refine gate_callee (f := 49) rfl ?_); refine goesL_ (some 21) rfl rfl Tryd.func49 (by kernel_rfl) rfl #[.string a3, .int .i64 0, .slice Ao15 y350.length co15] rfl gl_ ?_; (with_reducible refine (spec_l11Read.calls k a3 0 (fun k_ => some k_ = (.slice Ao15 y350.length co15 : Value).ownBlock) (.slice Ao15 y350.length co15) y350 t353 t356 t357 w _ ?side1 ?side2 A8.out).mono ?_); (case side1 => exact at_ HB.out); (case side2 => exact Kd.R_tight rfl HO352.out); rintro e w16 ⟨v354, rfl, ho0, hb, hkp⟩; refine ⟨_, rfl, ?_⟩; replace BK349 := mk_ (blk_kept (bk_ BK349.out) hkp (fun hs_ => (fun e_ => (Kd.R_ne HO352.out BK349.out (by decide)) e_) hs_)); have HO355 := mk_ (Kd.R_mono (ok' := fun k_ => True) ho0 (fun k_ hk_ => trivial)); replace HB := mk_ (hb); (try clear HO352); (try clear hb); (try clear hkp); (try clear ho0); obtain ⟨Ao17, co17, eo17⟩ := Kd.R_slice HO355.out; subst eo17) | ((with_reducible refine gate_dst (N := 13) rfl ?_); refine bx_ 13 #[.int .i64 0, .slice none 0 0] 27 ?_; intro gb358 hg w18 hbox hb; replace HO355 := mk_ (Kd.R_below (Kd.R_below HO355.out lt_) hb); have BK358 := mk_ (hbox); have GW358 := mk_ ((by rw [hg]; exact (below_size (at_ HB.out)) : w.heap.size ≤ gb358)); have GE358 := mk_ ((by rw [hg]; exact (below_size (at_ HB.out)) : w.heap.size ≤ gb358)); replace HB := mk_ (below_step (at_ HB.out) hb); have NB349_358 := mk_ ((by rw [hg]; exact Nat.ne_of_lt (blk_lt (g := gb349) (o := .cells #[.int .i64 0, .slice none 0 0] 27 (0, 0)) (bk_ BK349.out)) : gb349 ≠ gb358)); have NB358_349 := mk_ ((by rw [hg]; exact Nat.ne_of_gt (blk_lt (g := gb349) (o := .cells #[.int .i64 0, .slice none 0 0] 27 (0, 0)) (bk_ BK349.out)) : gb358 ≠ gb349)); replace BK349 := mk_ (blk_at BK349.out hb); clear hb hbox hg; have hnb19 := NB358_349.out; have hnc19 := NB349_358.out; have hcz20_0 := blk_cell BK358.out 0; have hcz20_1 := blk_cell BK358.out 1; have hfz20_0 := blk_frozen BK358.out 0; have hfz20_1 := blk_frozen BK358.out 1) | (go_at_call 9; (with_reducible refine (spec_ProofText.calls k a0 _ _ l1 _ _ l2 t356 _ _ t353 t359 _ ?side1 ?side2 ?side3 ?side4 ?side5 ?side6 A10.out).mono ?_); (case side1 => exact Kd.C_below HR1.out (at_ HB.out)); (case side2 => exact HC1.out); (case side3 => exact Kd.C_below HR2.out (at_ HB.out)); (case side4 => exact HC2.out); (case side5 => refine (Kd.R_reads' (e := 68) (base := w.heap.size) (ok := fun k_ => True) (n := t353.length) (c := co17) ?_).2.2; exact (by (with_reducible repeat (first | apply Kd.R_alloc | apply Kd.R_drewN | apply Kd.R_drew)); exact (Kd.R_mono (Kd.R_far (p := ⟨gb358, 1, none⟩) (Kd.R_far (p := ⟨gb358, 0, none⟩) (Kd.R_types HO355.out BK358.out (by decide)) (fun _ hk => hk.2) (.int .i64 t356)) (fun _ hk => hk.2) (.slice Ao17 t353.length co17)) (fun _ h_ => h_.1)))); (case side6 => exact (Kd.R_reads' HO355.out).2.1); rintro e w21 ⟨rfl, hb⟩; replace HO355 := mk_ (Kd.R_below (by (with_reducible repeat (first | apply Kd.R_alloc | apply Kd.R_drewN | apply Kd.R_drew)); exact (Kd.R_mono (Kd.R_far (p := ⟨gb358, 1, none⟩) (Kd.R_far (p := ⟨gb358, 0, none⟩) (Kd.R_types HO355.out BK358.out (by decide)) (fun _ hk => hk.2) (.int .i64 t356)) (fun _ hk => hk.2) (.slice Ao17 t353.length co17)) (fun _ h_ => h_.1))) hb); replace BK349 := mk_ (blk_below (g := gb349) (o := .cells #[.int .i64 0, .slice none 0 0] 27 (0, 0)) (by refine bs_ ?_; refine blk_far ?_ NB349_358.out _; refine bs_ ?_; refine blk_far ?_ NB349_358.out _; refine bs_ ?_; exact BK349.out) hb); replace BK358 := mk_ (blk_below (g := gb358) (o := .cells #[.int .i64 t356, .slice Ao17 t353.length co17] 27 (0, 0)) (by refine bs_ ?_; refine blk_put (cs := #[.int .i64 t356, .slice none 0 0]) ?_ 1 _ rfl; refine bs_ ?_; refine blk_put (cs := #[.int .i64 0, .slice none 0 0]) ?_ 0 _ rfl; refine bs_ ?_; exact BK358.out) hb); replace HB := mk_ (below_step (at_ HB.out) hb); (try clear hb); (try clear hb2); (try clear hk); (try clear hi); have hcz22_0 := blk_cell BK358.out 0; have hcz22_1 := blk_cell BK358.out 1; have hfz22_0 := blk_frozen BK358.out 0; have hfz22_1 := blk_frozen BK358.out 1; have hcz23_0 := blk_cell BK349.out 0; have hcz23_1 := blk_cell BK349.out 1; have hfz23_0 := blk_frozen BK349.out 0; have hfz23_1 := blk_frozen BK349.out 1))
 refine bodyPost_ret (results_ct rfl _ _ gb349 27 #[.int .i64 t356, .slice Ao17 t353.length co17] (0, 0) _ rfl (by refine bs_ ?_; refine blk_put (cs := #[.int .i64 t356, .slice none 0 0]) ?_ 1 _ rfl; refine bs_ ?_; refine blk_put (cs := #[.int .i64 0, .slice none 0 0]) ?_ 0 _ rfl; refine bs_ ?_; exact BK349.out) Tryd.underlying27 rfl (by kernel_rfl)) rfl ?_
 exact ⟨_, er_, by (with_reducible repeat (first | apply Kd.R_alloc | apply Kd.R_drewN | apply Kd.R_drew)); exact Kd.R_mono (Kd.R_far (p := ⟨gb349, 1, none⟩) (Kd.R_far (p := ⟨gb349, 0, none⟩) (Kd.R_types HO355.out BK349.out (by decide)) (fun _ hk => hk.2) (.int .i64 t356)) (fun _ hk => hk.2) (.slice Ao17 t353.length co17)) (fun _ hk => trivial), at_ HB.out⟩

end Go.Proofs.YtcaogllnbpmcgaaDoor.P

/- Go's functions come to just the answers of the Lean functions told here. -/
import Derived.Test.YtcaogllnbpmcgaaPx4
namespace Go.Proofs.Ytcaogllnbpmcgaa.P
open Go.RowKit Go.Proofs.YtcaogllnbpmcgaaW.PrintWords Go.Proofs.YtcaogllnbpmcgaaW.PrintLast Go.Proofs.YtcaogllnbpmcgaaW.PrintMore
attribute [local go_sem] max2_int min2_int max_two min_two max_three min_three max_four min_four
set_option linter.unusedVariables false
set_option linter.unusedSimpArgs false
def spec_l3Holds.f : Nat → List (S47) → Int → Option (Bool)
 | 0, _, _ => none
 | k + 1, l0, a1 => if 0 ≤ (wrap64 ((l0.length : Int) - 1)) then (if (wrap64 ((l0.length : Int) - 1)) < (l0.length : Int) then (if ((rd_T47 l0 (wrap64 ((l0.length : Int) - 1))).f0) = 0 then (if 0 ≤ ((rd_T47 l0 (wrap64 ((l0.length : Int) - 1))).f1) then (some ((Int.tmod (shr .i64 a1 ((rd_T47 l0 (wrap64 ((l0.length : Int) - 1))).f1)) 2) == 1)) else (none)) else (if ((rd_T47 l0 (wrap64 ((l0.length : Int) - 1))).f0) = 1 then ((spec_l1Heads.f k a1).bind fun t127 => (some (decide (t127 ≥ ((rd_T47 l0 (wrap64 ((l0.length : Int) - 1))).f1))))) else (if ((rd_T47 l0 (wrap64 ((l0.length : Int) - 1))).f0) = 2 then (if (wrap64 ((l0.length : Int) - 1)) ≤ (l0.length : Int) then ((spec_l3Holds.f k (l0.take ((wrap64 ((l0.length : Int) - 1)) : Int).toNat) a1).bind fun t133 => (some (!t133))) else (none)) else ((spec_l2Starts.f k l0 (wrap64 ((wrap64 ((l0.length : Int) - 1)) - 1))).bind fun t134 => (if 0 ≤ t134 then (if t134 ≤ (l0.length : Int) then ((spec_l3Holds.f k (l0.take (t134 : Int).toNat) a1).bind fun t139 => (if t134 ≤ (wrap64 ((l0.length : Int) - 1)) then (if (wrap64 ((l0.length : Int) - 1)) ≤ (l0.length : Int) then ((spec_l3Holds.f k ((l0.take ((wrap64 ((l0.length : Int) - 1)) : Int).toNat).drop (t134 : Int).toNat) a1).bind fun t144 => (if ((rd_T47 l0 (wrap64 ((l0.length : Int) - 1))).f0) = 3 then (if t139 = true then (some t144) else (some false)) else (if ((rd_T47 l0 (wrap64 ((l0.length : Int) - 1))).f0) = 4 then (if t139 = true then (some true) else (some t144)) else (some (t139 == t144))))) else (none)) else (none))) else (none)) else (none)))))) else (none)) else (none)
set_option maxHeartbeats 8000000 in
set_option maxRecDepth 100000 in
theorem spec_l3Holds.calls (k : Nat) : ∀ (A0 : Option Addr) (c0 : Nat) (l0 : List (S47)) (a1 : Int) (r : Bool) (w : World) (hr0 : Kd.C k47 w A0 l0.length l0) (hc0 : l0.length ≤ c0) (h : spec_l3Holds.f k l0 a1 = some r),
  Calls Try.prog 113 #[.slice A0 l0.length c0, .int .i64 a1] w fun e w' => e = .returned (.bool r) ∧ Drawn0 w w' := by
 induction k using Nat.strongRecOn with
 | _ k ih =>
 intro A0 c0 l0 a1 r w hr0 hc0 h
 cases k with
 | zero => exact absurd h (by simp [spec_l3Holds.f])
 | succ k =>
 simp only [spec_l3Holds.f] at h
 have HR0 := mk_ hr0
 have HC0 := mk_ hc0
 clear hr0 hc0
 have H : (if 0 ≤ (wrap64 ((l0.length : Int) - 1)) then (if (wrap64 ((l0.length : Int) - 1)) < (l0.length : Int) then (if ((rd_T47 l0 (wrap64 ((l0.length : Int) - 1))).f0) = 0 then (if 0 ≤ ((rd_T47 l0 (wrap64 ((l0.length : Int) - 1))).f1) then (some ((Int.tmod (shr .i64 a1 ((rd_T47 l0 (wrap64 ((l0.length : Int) - 1))).f1)) 2) == 1)) else (none)) else (if ((rd_T47 l0 (wrap64 ((l0.length : Int) - 1))).f0) = 1 then ((spec_l1Heads.f k a1).bind fun t127 => (some (decide (t127 ≥ ((rd_T47 l0 (wrap64 ((l0.length : Int) - 1))).f1))))) else (if ((rd_T47 l0 (wrap64 ((l0.length : Int) - 1))).f0) = 2 then (if (wrap64 ((l0.length : Int) - 1)) ≤ (l0.length : Int) then ((spec_l3Holds.f k (l0.take ((wrap64 ((l0.length : Int) - 1)) : Int).toNat) a1).bind fun t133 => (some (!t133))) else (none)) else ((spec_l2Starts.f k l0 (wrap64 ((wrap64 ((l0.length : Int) - 1)) - 1))).bind fun t134 => (if 0 ≤ t134 then (if t134 ≤ (l0.length : Int) then ((spec_l3Holds.f k (l0.take (t134 : Int).toNat) a1).bind fun t139 => (if t134 ≤ (wrap64 ((l0.length : Int) - 1)) then (if (wrap64 ((l0.length : Int) - 1)) ≤ (l0.length : Int) then ((spec_l3Holds.f k ((l0.take ((wrap64 ((l0.length : Int) - 1)) : Int).toNat).drop (t134 : Int).toNat) a1).bind fun t144 => (if ((rd_T47 l0 (wrap64 ((l0.length : Int) - 1))).f0) = 3 then (if t139 = true then (some t144) else (some false)) else (if ((rd_T47 l0 (wrap64 ((l0.length : Int) - 1))).f0) = 4 then (if t139 = true then (some true) else (some t144)) else (some (t139 == t144))))) else (none)) else (none))) else (none)) else (none)))))) else (none)) else (none)) = some r := h
 clear h
 obtain ⟨ji3, hji3⟩ : ∃ j_ : Int, (wrap64 ((l0.length : Int) - 1)) = j_ := ⟨_, rfl⟩
 first | rw [hji3] at H | simp only [hji3] at H
 have hji3w : (IntKind.i64.wrap ((l0.length : Int) - 1)) = ji3 := (i64_w _).trans hji3
 by_cases c4 : 0 ≤ (ji3)
 rotate_left
 ·rw [if_neg c4] at H
  exact absurd H (by simp)
 rw [if_pos c4] at H
 have c4b0 : decide (0 ≤ (ji3)) = true := decide_eq_true c4
 clear c4
 by_cases c5 : (ji3) < (l0.length : Int)
 rotate_left
 ·rw [if_neg c5] at H
  exact absurd H (by simp)
 rw [if_pos c5] at H
 have c5b0 : decide ((ji3) < (l0.length : Int)) = true := decide_eq_true c5
 clear c5
 by_cases c6 : ((rd_T47 l0 (ji3)).f0) = 0
 ·rw [if_pos c6] at H
  have c6b0 : (((rd_T47 l0 (ji3)).f0) == 0) = true := beq_iff_eq.mpr c6
  have c6b1 : (((rd_T47 l0 (ji3)).f0) != 0) = false := bne_eq_false_iff_eq.mpr c6
  clear c6
  by_cases c7 : 0 ≤ ((rd_T47 l0 (ji3)).f1)
  rotate_left
  ·rw [if_neg c7] at H
   exact absurd H (by simp)
  rw [if_pos c7] at H
  have c7b0 := eq_true c7
  have c7b1 : decide (0 ≤ ((rd_T47 l0 (ji3)).f1)) = true := decide_eq_true c7
  clear c7
  obtain ⟨ji8, hji8⟩ : ∃ j_ : Int, (shr .i64 a1 ((rd_T47 l0 (ji3)).f1)) = j_ := ⟨_, rfl⟩
  first | rw [hji8] at H | simp only [hji8] at H
  have hji8_ : (a1 / 2 ^ min ((rd_T47 l0 (ji3)).f1).toNat 64) = ji8 := hji8
  have hji8z : ((rd_T47 l0 (ji3)).f1) ≤ 64 → (a1 / 2 ^ ((rd_T47 l0 (ji3)).f1).toNat) = ji8 := shr_small hji8
  obtain rfl := Option.some.inj H
  have p125 : 0 ≤ ((ji3) : Int) := oa_
  have q125 : (ji3) < (l0.length : Int) := oa_
  obtain ⟨ad125, e125, hx125_0, hx125_1⟩ := at_T47 HR0.out (ji3) p125 q125
  cases e125
  replace p125 := eq_true p125
  replace q125 := eq_true q125
  have p126 : 0 ≤ ((ji3) : Int) := oa_
  have q126 : (ji3) < (l0.length : Int) := oa_
  obtain ⟨ad126, e126, hx126_0, hx126_1⟩ := at_T47 HR0.out (ji3) p126 q126
  obtain rfl : ad125 = ad126 := (by injection e126)
  replace p126 := eq_true p126
  replace q126 := eq_true q126
  go_enter Try.func113, Try.ntmps113
  go_wp2
  repeat (go_quiet (fail); try go_wp2)
  go_ret
  exact ⟨by first | rfl | (simp; done) | (simp only [← hji3, ← hji8] <;> (first | rfl | simp)) | (simp [*]; done), by repeat (first | exact Drawn0.refl _ | apply Drawn0.step)⟩
 rw [if_neg c6] at H
 have c6b0 : (((rd_T47 l0 (ji3)).f0) == 0) = false := beq_eq_false_iff_ne.mpr c6
 have c6b1 : (((rd_T47 l0 (ji3)).f0) != 0) = true := bne_iff_ne.mpr c6
 by_cases c9 : ((rd_T47 l0 (ji3)).f0) = 1
 ·rw [if_pos c9] at H
  have c9b0 : (((rd_T47 l0 (ji3)).f0) == 1) = true := beq_iff_eq.mpr c9
  have c9b1 : (((rd_T47 l0 (ji3)).f0) != 1) = false := bne_eq_false_iff_eq.mpr c9
  clear c9
  replace H := Option.bind_eq_some_iff.mp H
  obtain ⟨t127, A100, H⟩ := H
  try dsimp only at H
  have A10 := mk_ A100
  clear A100
  obtain rfl := Option.some.inj H
  have p125 : 0 ≤ ((ji3) : Int) := oa_
  have q125 : (ji3) < (l0.length : Int) := oa_
  obtain ⟨ad125, e125, hx125_0, hx125_1⟩ := at_T47 HR0.out (ji3) p125 q125
  cases e125
  replace p125 := eq_true p125
  replace q125 := eq_true q125
  go_enter Try.func113, Try.ntmps113
  go_wp2_with (first | (go_at_call 117; (with_reducible refine (spec_l1Heads.calls k a1 t127 _ A10.out).mono ?_); rintro e w' ⟨rfl, ⟨nd, rfl⟩⟩; (try exact dr_); have p128 : 0 ≤ ((ji3) : Int) := oa_; have q128 : (ji3) < (l0.length : Int) := oa_; obtain ⟨ad128, e128, hx128_0, hx128_1⟩ := at_T47 HR0.out (ji3) p128 q128; obtain rfl : ad125 = ad128 := (by injection e128); replace p128 := eq_true p128; replace q128 := eq_true q128))
  repeat (go_quiet (first | (go_at_call 117; (with_reducible refine (spec_l1Heads.calls k a1 t127 _ A10.out).mono ?_); rintro e w' ⟨rfl, ⟨nd, rfl⟩⟩; (try exact dr_); have p128 : 0 ≤ ((ji3) : Int) := oa_; have q128 : (ji3) < (l0.length : Int) := oa_; obtain ⟨ad128, e128, hx128_0, hx128_1⟩ := at_T47 HR0.out (ji3) p128 q128; obtain rfl : ad125 = ad128 := (by injection e128); replace p128 := eq_true p128; replace q128 := eq_true q128)); try go_wp2_with (first | (go_at_call 117; (with_reducible refine (spec_l1Heads.calls k a1 t127 _ A10.out).mono ?_); rintro e w' ⟨rfl, ⟨nd, rfl⟩⟩; (try exact dr_); have p128 : 0 ≤ ((ji3) : Int) := oa_; have q128 : (ji3) < (l0.length : Int) := oa_; obtain ⟨ad128, e128, hx128_0, hx128_1⟩ := at_T47 HR0.out (ji3) p128 q128; obtain rfl : ad125 = ad128 := (by injection e128); replace p128 := eq_true p128; replace q128 := eq_true q128)))
  go_ret
  exact ⟨by first | rfl | (simp; done) | (simp only [← hji3] <;> (first | rfl | simp)) | (simp [*]; done), by repeat (first | exact Drawn0.refl _ | apply Drawn0.step)⟩
 rw [if_neg c9] at H
 have c9b0 : (((rd_T47 l0 (ji3)).f0) == 1) = false := beq_eq_false_iff_ne.mpr c9
 have c9b1 : (((rd_T47 l0 (ji3)).f0) != 1) = true := bne_iff_ne.mpr c9
 by_cases c11 : ((rd_T47 l0 (ji3)).f0) = 2
 ·rw [if_pos c11] at H
  have c11b0 : (((rd_T47 l0 (ji3)).f0) == 2) = true := beq_iff_eq.mpr c11
  have c11b1 : (((rd_T47 l0 (ji3)).f0) != 2) = false := bne_eq_false_iff_eq.mpr c11
  clear c11
  have c12b0 := eq_true (oa_ : 0 ≤ (ji3))
  by_cases c13 : (ji3) ≤ (l0.length : Int)
  rotate_left
  ·rw [if_neg c13] at H
   exact absurd H (by simp)
  rw [if_pos c13] at H
  have c13b0 := eq_true c13
  have c13b1 : decide ((ji3) ≤ (l0.length : Int)) = true := decide_eq_true c13
  clear c13
  obtain ⟨y129, hy129⟩ : ∃ y_ : List (S47), y_ = (l0.take ((ji3) : Int).toNat) := ⟨_, rfl⟩
  first | (replace H := bn_ hy129 H; try dsimp only at H) | rw [← hy129] at H
  have Ny129 := mk_ hy129
  clear hy129
  replace H := Option.bind_eq_some_iff.mp H
  obtain ⟨t133, A140, H⟩ := H
  replace H : (some (!t133)) = some r := H
  have A14 := mk_ A140
  clear A140
  obtain rfl := Option.some.inj H
  have p125 : 0 ≤ ((ji3) : Int) := oa_
  have q125 : (ji3) < (l0.length : Int) := oa_
  obtain ⟨ad125, e125, hx125_0, hx125_1⟩ := at_T47 HR0.out (ji3) p125 q125
  cases e125
  replace p125 := eq_true p125
  replace q125 := eq_true q125
  have q15 : ((ji3) : Int) ≤ ((l0.length : Int) : Int) := oa_
  obtain ⟨i015, hi015, _, hsz15, _⟩ := info_parts info47
  have hroom15 : l0.length ≤ c0 := HC0.out
  have hC15 : Kd.C k47 _ (some ad125) l0.length l0 := HR0.out
  have hcut15 := cut_to (P := Try.prog) 36 47 .i64 Try.underlying36 hi015 (some ad125) l0.length c0 (ji3) (oa_) q15 hroom15
  have hr15 := Kd.C_take (m := ((ji3) : Int).toNat) hC15 (by omega)
  have hy15 : y129.length = ((ji3) : Int).toNat := (by rw [Ny129.out, List.length_take]; omega)
  rw [← Ny129.out] at hr15
  rw [← hy15] at hcut15
  have HR132 := mk_ hr15
  have HC132 := mk_ (show y129.length ≤ c0 from by omega)
  clear hr15 hC15 hroom15 hi015 hsz15
  have KY15 := mk_ hy15
  clear hy15
  replace q15 := eq_true q15
  go_enter Try.func113, Try.ntmps113
  go_wp2_with (first | (go_at_call 113; (with_reducible refine (ih k (by omega) _ _ y129 a1 t133 _ ?side1 ?side2 A14.out).mono ?_); (case side1 => exact Kd.C_below HR132.out lt_); (case side2 => exact HC132.out); rintro e w' ⟨rfl, ⟨nd, rfl⟩⟩; (try exact dr_)))
  repeat (go_quiet (first | (go_at_call 113; (with_reducible refine (ih k (by omega) _ _ y129 a1 t133 _ ?side1 ?side2 A14.out).mono ?_); (case side1 => exact Kd.C_below HR132.out lt_); (case side2 => exact HC132.out); rintro e w' ⟨rfl, ⟨nd, rfl⟩⟩; (try exact dr_))); try go_wp2_with (first | (go_at_call 113; (with_reducible refine (ih k (by omega) _ _ y129 a1 t133 _ ?side1 ?side2 A14.out).mono ?_); (case side1 => exact Kd.C_below HR132.out lt_); (case side2 => exact HC132.out); rintro e w' ⟨rfl, ⟨nd, rfl⟩⟩; (try exact dr_))))
  go_ret
  exact ⟨by first | rfl | (simp; done) | (simp only [← hji3] <;> (first | rfl | simp)) | (simp [*]; done), by repeat (first | exact Drawn0.refl _ | apply Drawn0.step)⟩
 rw [if_neg c11] at H
 have c11b0 : (((rd_T47 l0 (ji3)).f0) == 2) = false := beq_eq_false_iff_ne.mpr c11
 have c11b1 : (((rd_T47 l0 (ji3)).f0) != 2) = true := bne_iff_ne.mpr c11
 replace H := Option.bind_eq_some_iff.mp H
 obtain ⟨t134, A160, H⟩ := H
 try dsimp only at H
 have A16 := mk_ A160
 clear A160
 by_cases c17 : 0 ≤ t134
 rotate_left
 ·rw [if_neg c17] at H
  exact absurd H (by simp)
 rw [if_pos c17] at H
 have c17b0 := eq_true c17
 have c17b1 : decide (0 ≤ t134) = true := decide_eq_true c17
 clear c17
 by_cases c18 : t134 ≤ (l0.length : Int)
 rotate_left
 ·rw [if_neg c18] at H
  exact absurd H (by simp)
 rw [if_pos c18] at H
 have c18b0 := eq_true c18
 have c18b1 : decide (t134 ≤ (l0.length : Int)) = true := decide_eq_true c18
 clear c18
 obtain ⟨y135, hy135⟩ : ∃ y_ : List (S47), y_ = (l0.take (t134 : Int).toNat) := ⟨_, rfl⟩
 first | (replace H := bn_ hy135 H; try dsimp only at H) | rw [← hy135] at H
 have Ny135 := mk_ hy135
 clear hy135
 replace H := Option.bind_eq_some_iff.mp H
 obtain ⟨t139, A190, H⟩ := H
 try dsimp only at H
 have A19 := mk_ A190
 clear A190
 have c20b0 := eq_true (oa_ : 0 ≤ t134)
 by_cases c21 : t134 ≤ (ji3)
 rotate_left
 ·rw [if_neg c21] at H
  exact absurd H (by simp)
 rw [if_pos c21] at H
 have c21b0 := eq_true c21
 have c21b1 : decide (t134 ≤ (ji3)) = true := decide_eq_true c21
 clear c21
 by_cases c22 : (ji3) ≤ (l0.length : Int)
 rotate_left
 ·rw [if_neg c22] at H
  exact absurd H (by simp)
 rw [if_pos c22] at H
 have c22b0 := eq_true c22
 have c22b1 : decide ((ji3) ≤ (l0.length : Int)) = true := decide_eq_true c22
 clear c22
 obtain ⟨y140, hy140⟩ : ∃ y_ : List (S47), y_ = ((l0.take ((ji3) : Int).toNat).drop (t134 : Int).toNat) := ⟨_, rfl⟩
 first | (replace H := bn_ hy140 H; try dsimp only at H) | rw [← hy140] at H
 have Ny140 := mk_ hy140
 clear hy140
 replace H := Option.bind_eq_some_iff.mp H
 obtain ⟨t144, A230, H⟩ := H
 try dsimp only at H
 have A23 := mk_ A230
 clear A230
 by_cases c24 : ((rd_T47 l0 (ji3)).f0) = 3
 ·rw [if_pos c24] at H
  have c24b0 : (((rd_T47 l0 (ji3)).f0) == 3) = true := beq_iff_eq.mpr c24
  have c24b1 : (((rd_T47 l0 (ji3)).f0) != 3) = false := bne_eq_false_iff_eq.mpr c24
  clear c24
  by_cases c25 : t139 = true
  ·subst c25
   rw [if_pos rfl] at H
   obtain rfl := Option.some.inj H
   have p125 : 0 ≤ ((ji3) : Int) := oa_
   have q125 : (ji3) < (l0.length : Int) := oa_
   obtain ⟨ad125, e125, hx125_0, hx125_1⟩ := at_T47 HR0.out (ji3) p125 q125
   cases e125
   replace p125 := eq_true p125
   replace q125 := eq_true q125
   go_enter Try.func113, Try.ntmps113
   go_wp2_with (first | (go_at_call 118; (with_reducible refine (spec_l2Starts.calls k _ _ l0 (wrap64 ((ji3) - 1)) t134 _ ?side1 ?side2 A16.out).mono ?_); (case side1 => exact Kd.C_below HR0.out lt_); (case side2 => exact HC0.out); rintro e w' ⟨rfl, ⟨nd, rfl⟩⟩; (try exact dr_); have q26 : (t134 : Int) ≤ ((l0.length : Int) : Int) := oa_; obtain ⟨i026, hi026, _, hsz26, _⟩ := info_parts info47; have hroom26 : l0.length ≤ c0 := HC0.out; have hC26 : Kd.C k47 _ (some ad125) l0.length l0 := HR0.out; have hcut26 := cut_to (P := Try.prog) 36 47 .i64 Try.underlying36 hi026 (some ad125) l0.length c0 t134 (oa_) q26 hroom26; have hr26 := Kd.C_take (m := (t134 : Int).toNat) hC26 (by omega); have hy26 : y135.length = (t134 : Int).toNat := (by rw [Ny135.out, List.length_take]; omega); rw [← Ny135.out] at hr26; rw [← hy26] at hcut26; have HR138 := mk_ hr26; have HC138 := mk_ (show y135.length ≤ c0 from by omega); clear hr26 hC26 hroom26 hi026 hsz26; have KY26 := mk_ hy26; clear hy26; replace q26 := eq_true q26) | (go_at_call 113; (with_reducible refine (ih k (by omega) _ _ y135 a1 true _ ?side1 ?side2 A19.out).mono ?_); (case side1 => exact Kd.C_below HR138.out lt_); (case side2 => exact HC138.out); rintro e w' ⟨rfl, ⟨nd, rfl⟩⟩; (try exact dr_); have q27 : ((ji3) : Int) ≤ ((l0.length : Int) : Int) := oa_; obtain ⟨i027, hi027, _, hsz27, _⟩ := info_parts info47; have hroom27 : l0.length ≤ c0 := HC0.out; have hC27 : Kd.C k47 _ (some ad125) l0.length l0 := HR0.out; have ql27 : (t134 : Int) ≤ ((ji3) : Int) := oa_; have q027 : (0 : Int) ≤ (t134 : Int) := oa_; have hcut27 := cut_mid (P := Try.prog) 36 47 .i64 .i64 Try.underlying36 hi027 2 hsz27 (some ad125) l0.length c0 t134 (ji3) q027 ql27 q27 hroom27; have hr27 := Kd.C_mid (lo := (t134 : Int).toNat) (hi := ((ji3) : Int).toNat) (c := c0) hC27 (by omega) (by omega) hroom27; obtain ⟨A27, hA27⟩ : ∃ A1, A1 = (if c0 = (t134 : Int).toNat then (some ad125) else ((some ad125) : Option Addr).map (·.add ((t134 : Int).toNat * 2))) := ⟨_, rfl⟩; obtain ⟨c27, hc27⟩ : ∃ c1, c1 = c0 - (t134 : Int).toNat := ⟨_, rfl⟩; have hy27 : y140.length = ((ji3) : Int).toNat - (t134 : Int).toNat := (by rw [Ny140.out, List.length_drop, List.length_take] <;> omega); rw [show ((l0).take ((ji3) : Int).toNat).drop (t134 : Int).toNat = y140 from Ny140.out.symm] at hr27; replace hr27 : Kd.C k47 _ A27 y140.length y140 := (by rw [hA27]; exact hr27); rw [← hy27, ← hA27, ← hc27] at hcut27; have HR143 := mk_ hr27; have HC143 := mk_ (show y140.length ≤ c27 from by rw [hy27, hc27]; exact Nat.sub_le_sub_right (Nat.le_trans (by omega) hroom27) _); clear hr27 hC27 hroom27 hi027 hsz27 hc27; have KY27 := mk_ hy27; have KA27 := mk_ hA27; clear hy27 hA27; replace q27 := eq_true q27) | (go_at_call 113; (with_reducible refine (ih k (by omega) _ _ y140 a1 t144 _ ?side1 ?side2 A23.out).mono ?_); (case side1 => exact Kd.C_below HR143.out lt_); (case side2 => exact HC143.out); rintro e w' ⟨rfl, ⟨nd, rfl⟩⟩; (try exact dr_); have p145 : 0 ≤ ((ji3) : Int) := oa_; have q145 : (ji3) < (l0.length : Int) := oa_; obtain ⟨ad145, e145, hx145_0, hx145_1⟩ := at_T47 HR0.out (ji3) p145 q145; obtain rfl : ad125 = ad145 := (by injection e145); replace p145 := eq_true p145; replace q145 := eq_true q145))
   repeat (go_quiet (fail); try go_wp2)
   go_ret
   exact ⟨by first | rfl | (simp; done) | (simp only [← hji3] <;> (first | rfl | simp)) | (simp [*]; done), by repeat (first | exact Drawn0.refl _ | apply Drawn0.step)⟩
  replace c25 := Bool.eq_false_iff.mpr c25
  subst c25
  rw [if_neg Bool.false_ne_true] at H
  obtain rfl := Option.some.inj H
  have p125 : 0 ≤ ((ji3) : Int) := oa_
  have q125 : (ji3) < (l0.length : Int) := oa_
  obtain ⟨ad125, e125, hx125_0, hx125_1⟩ := at_T47 HR0.out (ji3) p125 q125
  cases e125
  replace p125 := eq_true p125
  replace q125 := eq_true q125
  go_enter Try.func113, Try.ntmps113
  go_wp2_with (first | (go_at_call 118; (with_reducible refine (spec_l2Starts.calls k _ _ l0 (wrap64 ((ji3) - 1)) t134 _ ?side1 ?side2 A16.out).mono ?_); (case side1 => exact Kd.C_below HR0.out lt_); (case side2 => exact HC0.out); rintro e w' ⟨rfl, ⟨nd, rfl⟩⟩; (try exact dr_); have q28 : (t134 : Int) ≤ ((l0.length : Int) : Int) := oa_; obtain ⟨i028, hi028, _, hsz28, _⟩ := info_parts info47; have hroom28 : l0.length ≤ c0 := HC0.out; have hC28 : Kd.C k47 _ (some ad125) l0.length l0 := HR0.out; have hcut28 := cut_to (P := Try.prog) 36 47 .i64 Try.underlying36 hi028 (some ad125) l0.length c0 t134 (oa_) q28 hroom28; have hr28 := Kd.C_take (m := (t134 : Int).toNat) hC28 (by omega); have hy28 : y135.length = (t134 : Int).toNat := (by rw [Ny135.out, List.length_take]; omega); rw [← Ny135.out] at hr28; rw [← hy28] at hcut28; have HR138 := mk_ hr28; have HC138 := mk_ (show y135.length ≤ c0 from by omega); clear hr28 hC28 hroom28 hi028 hsz28; have KY28 := mk_ hy28; clear hy28; replace q28 := eq_true q28) | (go_at_call 113; (with_reducible refine (ih k (by omega) _ _ y135 a1 false _ ?side1 ?side2 A19.out).mono ?_); (case side1 => exact Kd.C_below HR138.out lt_); (case side2 => exact HC138.out); rintro e w' ⟨rfl, ⟨nd, rfl⟩⟩; (try exact dr_); have q29 : ((ji3) : Int) ≤ ((l0.length : Int) : Int) := oa_; obtain ⟨i029, hi029, _, hsz29, _⟩ := info_parts info47; have hroom29 : l0.length ≤ c0 := HC0.out; have hC29 : Kd.C k47 _ (some ad125) l0.length l0 := HR0.out; have ql29 : (t134 : Int) ≤ ((ji3) : Int) := oa_; have q029 : (0 : Int) ≤ (t134 : Int) := oa_; have hcut29 := cut_mid (P := Try.prog) 36 47 .i64 .i64 Try.underlying36 hi029 2 hsz29 (some ad125) l0.length c0 t134 (ji3) q029 ql29 q29 hroom29; have hr29 := Kd.C_mid (lo := (t134 : Int).toNat) (hi := ((ji3) : Int).toNat) (c := c0) hC29 (by omega) (by omega) hroom29; obtain ⟨A29, hA29⟩ : ∃ A1, A1 = (if c0 = (t134 : Int).toNat then (some ad125) else ((some ad125) : Option Addr).map (·.add ((t134 : Int).toNat * 2))) := ⟨_, rfl⟩; obtain ⟨c29, hc29⟩ : ∃ c1, c1 = c0 - (t134 : Int).toNat := ⟨_, rfl⟩; have hy29 : y140.length = ((ji3) : Int).toNat - (t134 : Int).toNat := (by rw [Ny140.out, List.length_drop, List.length_take] <;> omega); rw [show ((l0).take ((ji3) : Int).toNat).drop (t134 : Int).toNat = y140 from Ny140.out.symm] at hr29; replace hr29 : Kd.C k47 _ A29 y140.length y140 := (by rw [hA29]; exact hr29); rw [← hy29, ← hA29, ← hc29] at hcut29; have HR143 := mk_ hr29; have HC143 := mk_ (show y140.length ≤ c29 from by rw [hy29, hc29]; exact Nat.sub_le_sub_right (Nat.le_trans (by omega) hroom29) _); clear hr29 hC29 hroom29 hi029 hsz29 hc29; have KY29 := mk_ hy29; have KA29 := mk_ hA29; clear hy29 hA29; replace q29 := eq_true q29) | (go_at_call 113; (with_reducible refine (ih k (by omega) _ _ y140 a1 t144 _ ?side1 ?side2 A23.out).mono ?_); (case side1 => exact Kd.C_below HR143.out lt_); (case side2 => exact HC143.out); rintro e w' ⟨rfl, ⟨nd, rfl⟩⟩; (try exact dr_); have p145 : 0 ≤ ((ji3) : Int) := oa_; have q145 : (ji3) < (l0.length : Int) := oa_; obtain ⟨ad145, e145, hx145_0, hx145_1⟩ := at_T47 HR0.out (ji3) p145 q145; obtain rfl : ad125 = ad145 := (by injection e145); replace p145 := eq_true p145; replace q145 := eq_true q145))
  repeat (go_quiet (fail); try go_wp2)
  go_ret
  exact ⟨by first | rfl | (simp; done) | (simp only [← hji3] <;> (first | rfl | simp)) | (simp [*]; done), by repeat (first | exact Drawn0.refl _ | apply Drawn0.step)⟩
 rw [if_neg c24] at H
 have c24b0 : (((rd_T47 l0 (ji3)).f0) == 3) = false := beq_eq_false_iff_ne.mpr c24
 have c24b1 : (((rd_T47 l0 (ji3)).f0) != 3) = true := bne_iff_ne.mpr c24
 by_cases c30 : ((rd_T47 l0 (ji3)).f0) = 4
 rotate_left
 ·rw [if_neg c30] at H
  have c30b0 : (((rd_T47 l0 (ji3)).f0) == 4) = false := beq_eq_false_iff_ne.mpr c30
  have c30b1 : (((rd_T47 l0 (ji3)).f0) != 4) = true := bne_iff_ne.mpr c30
  obtain rfl := Option.some.inj H
  have p125 : 0 ≤ ((ji3) : Int) := oa_
  have q125 : (ji3) < (l0.length : Int) := oa_
  obtain ⟨ad125, e125, hx125_0, hx125_1⟩ := at_T47 HR0.out (ji3) p125 q125
  cases e125
  replace p125 := eq_true p125
  replace q125 := eq_true q125
  go_enter Try.func113, Try.ntmps113
  go_wp2_with (first | (go_at_call 118; (with_reducible refine (spec_l2Starts.calls k _ _ l0 (wrap64 ((ji3) - 1)) t134 _ ?side1 ?side2 A16.out).mono ?_); (case side1 => exact Kd.C_below HR0.out lt_); (case side2 => exact HC0.out); rintro e w' ⟨rfl, ⟨nd, rfl⟩⟩; (try exact dr_); have q36 : (t134 : Int) ≤ ((l0.length : Int) : Int) := oa_; obtain ⟨i036, hi036, _, hsz36, _⟩ := info_parts info47; have hroom36 : l0.length ≤ c0 := HC0.out; have hC36 : Kd.C k47 _ (some ad125) l0.length l0 := HR0.out; have hcut36 := cut_to (P := Try.prog) 36 47 .i64 Try.underlying36 hi036 (some ad125) l0.length c0 t134 (oa_) q36 hroom36; have hr36 := Kd.C_take (m := (t134 : Int).toNat) hC36 (by omega); have hy36 : y135.length = (t134 : Int).toNat := (by rw [Ny135.out, List.length_take]; omega); rw [← Ny135.out] at hr36; rw [← hy36] at hcut36; have HR138 := mk_ hr36; have HC138 := mk_ (show y135.length ≤ c0 from by omega); clear hr36 hC36 hroom36 hi036 hsz36; have KY36 := mk_ hy36; clear hy36; replace q36 := eq_true q36) | (go_at_call 113; (with_reducible refine (ih k (by omega) _ _ y135 a1 t139 _ ?side1 ?side2 A19.out).mono ?_); (case side1 => exact Kd.C_below HR138.out lt_); (case side2 => exact HC138.out); rintro e w' ⟨rfl, ⟨nd, rfl⟩⟩; (try exact dr_); have q37 : ((ji3) : Int) ≤ ((l0.length : Int) : Int) := oa_; obtain ⟨i037, hi037, _, hsz37, _⟩ := info_parts info47; have hroom37 : l0.length ≤ c0 := HC0.out; have hC37 : Kd.C k47 _ (some ad125) l0.length l0 := HR0.out; have ql37 : (t134 : Int) ≤ ((ji3) : Int) := oa_; have q037 : (0 : Int) ≤ (t134 : Int) := oa_; have hcut37 := cut_mid (P := Try.prog) 36 47 .i64 .i64 Try.underlying36 hi037 2 hsz37 (some ad125) l0.length c0 t134 (ji3) q037 ql37 q37 hroom37; have hr37 := Kd.C_mid (lo := (t134 : Int).toNat) (hi := ((ji3) : Int).toNat) (c := c0) hC37 (by omega) (by omega) hroom37; obtain ⟨A37, hA37⟩ : ∃ A1, A1 = (if c0 = (t134 : Int).toNat then (some ad125) else ((some ad125) : Option Addr).map (·.add ((t134 : Int).toNat * 2))) := ⟨_, rfl⟩; obtain ⟨c37, hc37⟩ : ∃ c1, c1 = c0 - (t134 : Int).toNat := ⟨_, rfl⟩; have hy37 : y140.length = ((ji3) : Int).toNat - (t134 : Int).toNat := (by rw [Ny140.out, List.length_drop, List.length_take] <;> omega); rw [show ((l0).take ((ji3) : Int).toNat).drop (t134 : Int).toNat = y140 from Ny140.out.symm] at hr37; replace hr37 : Kd.C k47 _ A37 y140.length y140 := (by rw [hA37]; exact hr37); rw [← hy37, ← hA37, ← hc37] at hcut37; have HR143 := mk_ hr37; have HC143 := mk_ (show y140.length ≤ c37 from by rw [hy37, hc37]; exact Nat.sub_le_sub_right (Nat.le_trans (by omega) hroom37) _); clear hr37 hC37 hroom37 hi037 hsz37 hc37; have KY37 := mk_ hy37; have KA37 := mk_ hA37; clear hy37 hA37; replace q37 := eq_true q37) | (go_at_call 113; (with_reducible refine (ih k (by omega) _ _ y140 a1 t144 _ ?side1 ?side2 A23.out).mono ?_); (case side1 => exact Kd.C_below HR143.out lt_); (case side2 => exact HC143.out); rintro e w' ⟨rfl, ⟨nd, rfl⟩⟩; (try exact dr_); have p145 : 0 ≤ ((ji3) : Int) := oa_; have q145 : (ji3) < (l0.length : Int) := oa_; obtain ⟨ad145, e145, hx145_0, hx145_1⟩ := at_T47 HR0.out (ji3) p145 q145; obtain rfl : ad125 = ad145 := (by injection e145); replace p145 := eq_true p145; replace q145 := eq_true q145))
  repeat (go_quiet (fail); try go_wp2)
  go_ret
  exact ⟨by first | rfl | (simp; done) | (simp only [← hji3] <;> (first | rfl | simp)) | (simp [*]; done), by repeat (first | exact Drawn0.refl _ | apply Drawn0.step)⟩
 rw [if_pos c30] at H
 have c30b0 : (((rd_T47 l0 (ji3)).f0) == 4) = true := beq_iff_eq.mpr c30
 have c30b1 : (((rd_T47 l0 (ji3)).f0) != 4) = false := bne_eq_false_iff_eq.mpr c30
 clear c30
 by_cases c31 : t139 = true
 ·subst c31
  rw [if_pos rfl] at H
  obtain rfl := Option.some.inj H
  have p125 : 0 ≤ ((ji3) : Int) := oa_
  have q125 : (ji3) < (l0.length : Int) := oa_
  obtain ⟨ad125, e125, hx125_0, hx125_1⟩ := at_T47 HR0.out (ji3) p125 q125
  cases e125
  replace p125 := eq_true p125
  replace q125 := eq_true q125
  go_enter Try.func113, Try.ntmps113
  go_wp2_with (first | (go_at_call 118; (with_reducible refine (spec_l2Starts.calls k _ _ l0 (wrap64 ((ji3) - 1)) t134 _ ?side1 ?side2 A16.out).mono ?_); (case side1 => exact Kd.C_below HR0.out lt_); (case side2 => exact HC0.out); rintro e w' ⟨rfl, ⟨nd, rfl⟩⟩; (try exact dr_); have q32 : (t134 : Int) ≤ ((l0.length : Int) : Int) := oa_; obtain ⟨i032, hi032, _, hsz32, _⟩ := info_parts info47; have hroom32 : l0.length ≤ c0 := HC0.out; have hC32 : Kd.C k47 _ (some ad125) l0.length l0 := HR0.out; have hcut32 := cut_to (P := Try.prog) 36 47 .i64 Try.underlying36 hi032 (some ad125) l0.length c0 t134 (oa_) q32 hroom32; have hr32 := Kd.C_take (m := (t134 : Int).toNat) hC32 (by omega); have hy32 : y135.length = (t134 : Int).toNat := (by rw [Ny135.out, List.length_take]; omega); rw [← Ny135.out] at hr32; rw [← hy32] at hcut32; have HR138 := mk_ hr32; have HC138 := mk_ (show y135.length ≤ c0 from by omega); clear hr32 hC32 hroom32 hi032 hsz32; have KY32 := mk_ hy32; clear hy32; replace q32 := eq_true q32) | (go_at_call 113; (with_reducible refine (ih k (by omega) _ _ y135 a1 true _ ?side1 ?side2 A19.out).mono ?_); (case side1 => exact Kd.C_below HR138.out lt_); (case side2 => exact HC138.out); rintro e w' ⟨rfl, ⟨nd, rfl⟩⟩; (try exact dr_); have q33 : ((ji3) : Int) ≤ ((l0.length : Int) : Int) := oa_; obtain ⟨i033, hi033, _, hsz33, _⟩ := info_parts info47; have hroom33 : l0.length ≤ c0 := HC0.out; have hC33 : Kd.C k47 _ (some ad125) l0.length l0 := HR0.out; have ql33 : (t134 : Int) ≤ ((ji3) : Int) := oa_; have q033 : (0 : Int) ≤ (t134 : Int) := oa_; have hcut33 := cut_mid (P := Try.prog) 36 47 .i64 .i64 Try.underlying36 hi033 2 hsz33 (some ad125) l0.length c0 t134 (ji3) q033 ql33 q33 hroom33; have hr33 := Kd.C_mid (lo := (t134 : Int).toNat) (hi := ((ji3) : Int).toNat) (c := c0) hC33 (by omega) (by omega) hroom33; obtain ⟨A33, hA33⟩ : ∃ A1, A1 = (if c0 = (t134 : Int).toNat then (some ad125) else ((some ad125) : Option Addr).map (·.add ((t134 : Int).toNat * 2))) := ⟨_, rfl⟩; obtain ⟨c33, hc33⟩ : ∃ c1, c1 = c0 - (t134 : Int).toNat := ⟨_, rfl⟩; have hy33 : y140.length = ((ji3) : Int).toNat - (t134 : Int).toNat := (by rw [Ny140.out, List.length_drop, List.length_take] <;> omega); rw [show ((l0).take ((ji3) : Int).toNat).drop (t134 : Int).toNat = y140 from Ny140.out.symm] at hr33; replace hr33 : Kd.C k47 _ A33 y140.length y140 := (by rw [hA33]; exact hr33); rw [← hy33, ← hA33, ← hc33] at hcut33; have HR143 := mk_ hr33; have HC143 := mk_ (show y140.length ≤ c33 from by rw [hy33, hc33]; exact Nat.sub_le_sub_right (Nat.le_trans (by omega) hroom33) _); clear hr33 hC33 hroom33 hi033 hsz33 hc33; have KY33 := mk_ hy33; have KA33 := mk_ hA33; clear hy33 hA33; replace q33 := eq_true q33) | (go_at_call 113; (with_reducible refine (ih k (by omega) _ _ y140 a1 t144 _ ?side1 ?side2 A23.out).mono ?_); (case side1 => exact Kd.C_below HR143.out lt_); (case side2 => exact HC143.out); rintro e w' ⟨rfl, ⟨nd, rfl⟩⟩; (try exact dr_); have p145 : 0 ≤ ((ji3) : Int) := oa_; have q145 : (ji3) < (l0.length : Int) := oa_; obtain ⟨ad145, e145, hx145_0, hx145_1⟩ := at_T47 HR0.out (ji3) p145 q145; obtain rfl : ad125 = ad145 := (by injection e145); replace p145 := eq_true p145; replace q145 := eq_true q145))
  repeat (go_quiet (fail); try go_wp2)
  go_ret
  exact ⟨by first | rfl | (simp; done) | (simp only [← hji3] <;> (first | rfl | simp)) | (simp [*]; done), by repeat (first | exact Drawn0.refl _ | apply Drawn0.step)⟩
 replace c31 := Bool.eq_false_iff.mpr c31
 subst c31
 rw [if_neg Bool.false_ne_true] at H
 obtain rfl := Option.some.inj H
 have p125 : 0 ≤ ((ji3) : Int) := oa_
 have q125 : (ji3) < (l0.length : Int) := oa_
 obtain ⟨ad125, e125, hx125_0, hx125_1⟩ := at_T47 HR0.out (ji3) p125 q125
 cases e125
 replace p125 := eq_true p125
 replace q125 := eq_true q125
 go_enter Try.func113, Try.ntmps113
 go_wp2_with (first | (go_at_call 118; (with_reducible refine (spec_l2Starts.calls k _ _ l0 (wrap64 ((ji3) - 1)) t134 _ ?side1 ?side2 A16.out).mono ?_); (case side1 => exact Kd.C_below HR0.out lt_); (case side2 => exact HC0.out); rintro e w' ⟨rfl, ⟨nd, rfl⟩⟩; (try exact dr_); have q34 : (t134 : Int) ≤ ((l0.length : Int) : Int) := oa_; obtain ⟨i034, hi034, _, hsz34, _⟩ := info_parts info47; have hroom34 : l0.length ≤ c0 := HC0.out; have hC34 : Kd.C k47 _ (some ad125) l0.length l0 := HR0.out; have hcut34 := cut_to (P := Try.prog) 36 47 .i64 Try.underlying36 hi034 (some ad125) l0.length c0 t134 (oa_) q34 hroom34; have hr34 := Kd.C_take (m := (t134 : Int).toNat) hC34 (by omega); have hy34 : y135.length = (t134 : Int).toNat := (by rw [Ny135.out, List.length_take]; omega); rw [← Ny135.out] at hr34; rw [← hy34] at hcut34; have HR138 := mk_ hr34; have HC138 := mk_ (show y135.length ≤ c0 from by omega); clear hr34 hC34 hroom34 hi034 hsz34; have KY34 := mk_ hy34; clear hy34; replace q34 := eq_true q34) | (go_at_call 113; (with_reducible refine (ih k (by omega) _ _ y135 a1 false _ ?side1 ?side2 A19.out).mono ?_); (case side1 => exact Kd.C_below HR138.out lt_); (case side2 => exact HC138.out); rintro e w' ⟨rfl, ⟨nd, rfl⟩⟩; (try exact dr_); have q35 : ((ji3) : Int) ≤ ((l0.length : Int) : Int) := oa_; obtain ⟨i035, hi035, _, hsz35, _⟩ := info_parts info47; have hroom35 : l0.length ≤ c0 := HC0.out; have hC35 : Kd.C k47 _ (some ad125) l0.length l0 := HR0.out; have ql35 : (t134 : Int) ≤ ((ji3) : Int) := oa_; have q035 : (0 : Int) ≤ (t134 : Int) := oa_; have hcut35 := cut_mid (P := Try.prog) 36 47 .i64 .i64 Try.underlying36 hi035 2 hsz35 (some ad125) l0.length c0 t134 (ji3) q035 ql35 q35 hroom35; have hr35 := Kd.C_mid (lo := (t134 : Int).toNat) (hi := ((ji3) : Int).toNat) (c := c0) hC35 (by omega) (by omega) hroom35; obtain ⟨A35, hA35⟩ : ∃ A1, A1 = (if c0 = (t134 : Int).toNat then (some ad125) else ((some ad125) : Option Addr).map (·.add ((t134 : Int).toNat * 2))) := ⟨_, rfl⟩; obtain ⟨c35, hc35⟩ : ∃ c1, c1 = c0 - (t134 : Int).toNat := ⟨_, rfl⟩; have hy35 : y140.length = ((ji3) : Int).toNat - (t134 : Int).toNat := (by rw [Ny140.out, List.length_drop, List.length_take] <;> omega); rw [show ((l0).take ((ji3) : Int).toNat).drop (t134 : Int).toNat = y140 from Ny140.out.symm] at hr35; replace hr35 : Kd.C k47 _ A35 y140.length y140 := (by rw [hA35]; exact hr35); rw [← hy35, ← hA35, ← hc35] at hcut35; have HR143 := mk_ hr35; have HC143 := mk_ (show y140.length ≤ c35 from by rw [hy35, hc35]; exact Nat.sub_le_sub_right (Nat.le_trans (by omega) hroom35) _); clear hr35 hC35 hroom35 hi035 hsz35 hc35; have KY35 := mk_ hy35; have KA35 := mk_ hA35; clear hy35 hA35; replace q35 := eq_true q35) | (go_at_call 113; (with_reducible refine (ih k (by omega) _ _ y140 a1 t144 _ ?side1 ?side2 A23.out).mono ?_); (case side1 => exact Kd.C_below HR143.out lt_); (case side2 => exact HC143.out); rintro e w' ⟨rfl, ⟨nd, rfl⟩⟩; (try exact dr_); have p145 : 0 ≤ ((ji3) : Int) := oa_; have q145 : (ji3) < (l0.length : Int) := oa_; obtain ⟨ad145, e145, hx145_0, hx145_1⟩ := at_T47 HR0.out (ji3) p145 q145; obtain rfl : ad125 = ad145 := (by injection e145); replace p145 := eq_true p145; replace q145 := eq_true q145))
 repeat (go_quiet (fail); try go_wp2)
 go_ret
 exact ⟨by first | rfl | (simp; done) | (simp only [← hji3] <;> (first | rfl | simp)) | (simp [*]; done), by repeat (first | exact Drawn0.refl _ | apply Drawn0.step)⟩
def spec_l3Table.l0 : Nat → Int → List (S47) → Int → Int → Option (Int)
 | 0, _, _, _, _ => none
 | k + 1, x0, x1, x5, x6 => if 0 ≤ x0 then (if x6 < (shl .i64 1 x0) then ((spec_l3Holds.f k x1 x6).bind fun t146 => (if t146 = true then (if 0 ≤ x6 then (spec_l3Table.l0 k x0 x1 (Go.bits .or .i64 x5 (shl .i64 1 x6)) (wrap64 (x6 + 1))) else (none)) else (spec_l3Table.l0 k x0 x1 x5 (wrap64 (x6 + 1))))) else (some x5)) else (none)
def spec_l3Table.f (k : Nat) (a0 : Int) (l1 : List (S47)) : Option (Int) := spec_l3Table.l0 k a0 l1 0 0
set_option maxHeartbeats 8000000 in
set_option maxRecDepth 100000 in
theorem spec_l3Table.calls (k : Nat) (a0 : Int) (A1 : Option Addr) (c1 : Nat) (l1 : List (S47)) (r : Int) (w : World) (hr1 : Kd.C k47 w A1 l1.length l1) (hc1 : l1.length ≤ c1) (h : spec_l3Table.f k a0 l1 = some r) :
  Calls Try.prog 110 #[.int .i64 a0, .slice A1 l1.length c1] w fun e w' => e = .returned (.int .i64 r) ∧ Drawn0 w w' := by
 have HR1 := mk_ hr1
 have HC1 := mk_ hc1
 clear hr1 hc1
 have H : (spec_l3Table.l0 k a0 l1 0 0) = some r := h
 clear h
 have H' := mk_ H
 clear H
 go_enter Try.func110, Try.ntmps110
 go_wp2
 go_loopg [5, 6] k (fun kq v5 v6 w' => ∃ (x5_1 : Int) (x6_1 : Int), v5 = .int .i64 x5_1 ∧ v6 = .int .i64 x6_1 ∧ Aside0 (spec_l3Table.l0 kq a0 l1 x5_1 x6_1 = some r) ∧ Aside0 (kq ≤ k) ∧ Drawn0 w w')
 case atStart => exact ⟨(0), (0), sm_, sm_, H', ⟨Nat.le_refl _⟩, by repeat (first | exact Drawn0.refl _ | apply Drawn0.step)⟩
 clear H'
 try clear c1
 try clear p2
 obtain ⟨x5_1, x6_1, rfl, rfl, HA, HK1, ⟨m1, rfl⟩⟩ := hrel
 cases gk with
 | zero => exact absurd HA.out (by simp [spec_l3Table.l0])
 | succ k1 =>
  have H := HA.out
  clear HA
  simp only [spec_l3Table.l0] at H
  by_cases c3 : 0 ≤ a0
  rotate_left
  ·rw [if_neg c3] at H
   exact absurd H (by simp)
  rw [if_pos c3] at H
  have c3b0 := eq_true c3
  have c3b1 : decide (0 ≤ a0) = true := decide_eq_true c3
  clear c3
  obtain ⟨ji4, hji4⟩ : ∃ j_ : Int, (shl .i64 1 a0) = j_ := ⟨_, rfl⟩
  first | rw [hji4] at H | simp only [hji4] at H
  have hji4_ : (IntKind.i64.wrap (1 * 2 ^ min a0.toNat 64)) = ji4 := hji4
  have hji4z : a0 ≤ 64 → (IntKind.i64.wrap (1 * 2 ^ a0.toNat)) = ji4 := shl_small hji4
  have hji4u : (IntKind.i64.wrap (2 ^ min a0.toNat 64)) = ji4 := by have h_ := hji4_; rw [Int.one_mul] at h_; exact h_
  have hji4v : a0 ≤ 64 → (IntKind.i64.wrap (2 ^ a0.toNat)) = ji4 := fun hle_ => by have h_ := hji4z hle_; rw [Int.one_mul] at h_; exact h_
  have hji4y : (wrap64 (1 * 2 ^ min a0.toNat 64)) = ji4 := (i64_w _).symm.trans hji4_
  have hji4x : a0 ≤ 64 → (wrap64 (1 * 2 ^ a0.toNat)) = ji4 := fun h_ => (i64_w _).symm.trans (hji4z h_)
  by_cases c5 : x6_1 < (ji4)
  rotate_left
  ·rw [if_neg c5] at H
   have c5b0 : decide (x6_1 < (ji4)) = false := decide_eq_false c5
   clear c5
   obtain rfl := Option.some.inj H
   go_wp2
   go_ret
   exact ⟨by first | rfl | (simp; done) | (simp only [← hji4] <;> (first | rfl | simp)) | (simp [*]; done), by repeat (first | exact Drawn0.refl _ | apply Drawn0.step)⟩
  rw [if_pos c5] at H
  have c5b0 : decide (x6_1 < (ji4)) = true := decide_eq_true c5
  clear c5
  replace H := Option.bind_eq_some_iff.mp H
  obtain ⟨t146, A60, H⟩ := H
  try dsimp only at H
  have A6 := mk_ A60
  clear A60
  by_cases c7 : t146 = true
  rotate_left
  ·replace c7 := Bool.eq_false_iff.mpr c7
   subst c7
   rw [if_neg Bool.false_ne_true] at H
   have H' := mk_ H
   clear H
   go_wp2_with (first | ((with_reducible refine gate_callee (f := 113) rfl ?_); refine goesL_ (some 15) rfl rfl Try.func113 (by kernel_rfl) rfl #[.slice A1 l1.length c1, .int .i64 x6_1] rfl gl_ ?_; (with_reducible refine (spec_l3Holds.calls k1 _ _ l1 x6_1 false _ ?side1 ?side2 A6.out).mono ?_); (case side1 => exact Kd.C_below HR1.out lt_); (case side2 => exact HC1.out); rintro e w' ⟨rfl, ⟨nd, rfl⟩⟩; refine ⟨_, rfl, ?_⟩))
   go_roundg k1
   case measure => have := HK1.out; omega
   case rel => exact ⟨(x5_1), (wrap64 (x6_1 + 1)), sm_, sm_, H', ⟨by have := HK1.out; omega⟩, by repeat (first | exact Drawn0.refl _ | apply Drawn0.step)⟩
  subst c7
  rw [if_pos rfl] at H
  by_cases c8 : 0 ≤ x6_1
  rotate_left
  ·rw [if_neg c8] at H
   exact absurd H (by simp)
  rw [if_pos c8] at H
  have c8b0 := eq_true c8
  have c8b1 : decide (0 ≤ x6_1) = true := decide_eq_true c8
  clear c8
  obtain ⟨ji9, hji9⟩ : ∃ j_ : Int, (shl .i64 1 x6_1) = j_ := ⟨_, rfl⟩
  first | rw [hji9] at H | simp only [hji9] at H
  (try rw [hji9] at A6)
  have hji9_ : (IntKind.i64.wrap (1 * 2 ^ min x6_1.toNat 64)) = ji9 := hji9
  have hji9z : x6_1 ≤ 64 → (IntKind.i64.wrap (1 * 2 ^ x6_1.toNat)) = ji9 := shl_small hji9
  have hji9u : (IntKind.i64.wrap (2 ^ min x6_1.toNat 64)) = ji9 := by have h_ := hji9_; rw [Int.one_mul] at h_; exact h_
  have hji9v : x6_1 ≤ 64 → (IntKind.i64.wrap (2 ^ x6_1.toNat)) = ji9 := fun hle_ => by have h_ := hji9z hle_; rw [Int.one_mul] at h_; exact h_
  have hji9y : (wrap64 (1 * 2 ^ min x6_1.toNat 64)) = ji9 := (i64_w _).symm.trans hji9_
  have hji9x : x6_1 ≤ 64 → (wrap64 (1 * 2 ^ x6_1.toNat)) = ji9 := fun h_ => (i64_w _).symm.trans (hji9z h_)
  have H' := mk_ H
  clear H
  go_wp2_with (first | ((with_reducible refine gate_callee (f := 113) rfl ?_); refine goesL_ (some 15) rfl rfl Try.func113 (by kernel_rfl) rfl #[.slice A1 l1.length c1, .int .i64 x6_1] rfl gl_ ?_; (with_reducible refine (spec_l3Holds.calls k1 _ _ l1 x6_1 true _ ?side1 ?side2 A6.out).mono ?_); (case side1 => exact Kd.C_below HR1.out lt_); (case side2 => exact HC1.out); rintro e w' ⟨rfl, ⟨nd, rfl⟩⟩; refine ⟨_, rfl, ?_⟩))
  go_roundg k1
  case measure => have := HK1.out; omega
  case rel => exact ⟨(Go.bits .or .i64 x5_1 (ji9)), (wrap64 (x6_1 + 1)), (by first | rfl | (simp; done) | (simp only [← hji9] <;> (first | rfl | simp)) | (simp [*]; done)), sm_, H', ⟨by have := HK1.out; omega⟩, by repeat (first | exact Drawn0.refl _ | apply Drawn0.step)⟩
def spec_l4May.f (k : Nat) (a0_0 : Int) (l0_1 : List (S47)) (a1 : Int) : Option (Bool) := if 0 ≤ a0_0 then ((spec_l3Holds.f k l0_1 a1).bind fun t148 => (some (((Int.tmod (shr .i64 a1 a0_0) 2) == 1) == t148))) else (none)
set_option maxHeartbeats 8000000 in
set_option maxRecDepth 100000 in
theorem spec_l4May.calls (k : Nat) (a0_0 : Int) (A0_1 : Option Addr) (c0_1 : Nat) (l0_1 : List (S47)) (a1 : Int) (r : Bool) (w : World) (hr0_1 : Kd.C k47 w A0_1 l0_1.length l0_1) (hc0_1 : l0_1.length ≤ c0_1) (h : spec_l4May.f k a0_0 l0_1 a1 = some r) :
  Calls Try.prog 101 #[.agg #[.int .i64 a0_0, .slice A0_1 l0_1.length c0_1], .int .i64 a1] w fun e w' => e = .returned (.bool r) ∧ Below w.heap.size w w' := by
 have hu38 := Try.underlying38
 have HR0_1 := mk_ hr0_1
 have HC0_1 := mk_ hc0_1
 clear hr0_1 hc0_1
 have HB := mk_ (Below.refl w.heap.size w)
 unfold spec_l4May.f at h
 have H := h
 clear h
 by_cases c3 : 0 ≤ a0_0
 rotate_left
 ·rw [if_neg c3] at H
  exact absurd H (by simp)
 rw [if_pos c3] at H
 have c3b0 := eq_true c3
 have c3b1 : decide (0 ≤ a0_0) = true := decide_eq_true c3
 clear c3
 obtain ⟨ji4, hji4⟩ : ∃ j_ : Int, (shr .i64 a1 a0_0) = j_ := ⟨_, rfl⟩
 first | rw [hji4] at H | simp only [hji4] at H
 have hji4_ : (a1 / 2 ^ min a0_0.toNat 64) = ji4 := hji4
 have hji4z : a0_0 ≤ 64 → (a1 / 2 ^ a0_0.toNat) = ji4 := shr_small hji4
 replace H := Option.bind_eq_some_iff.mp H
 obtain ⟨t148, A50, H⟩ := H
 try dsimp only at H
 have A5 := mk_ A50
 clear A50
 obtain rfl := Option.some.inj H
 go_enter Try.func101, Try.ntmps101
 go_wp2_with (first | ((with_reducible refine gate_dst (N := 2) rfl ?_); refine bx_ 2 #[.int .i64 a0_0, .slice A0_1 l0_1.length c0_1] 38 ?_; intro gb147 hg w6 hbox hb; have BK147 := mk_ (hbox); have GW147 := mk_ (gb_ hg HB.out); have GE147 := mk_ (gb_ hg HB.out); replace HB := mk_ (below_step (below_at HB.out) hb); clear hb hbox hg; have hcz7_0 := blk_cell BK147.out 0; have hcz7_1 := blk_cell BK147.out 1; have hfz7_0 := blk_frozen BK147.out 0; have hfz7_1 := blk_frozen BK147.out 1) | (go_at_call 113; (with_reducible refine (spec_l3Holds.calls k _ _ l0_1 a1 t148 _ ?side1 ?side2 A5.out).mono ?_); (case side1 => exact Kd.C_below (Kd.C_below HR0_1.out HB.out) lt_); (case side2 => exact HC0_1.out); rintro e w' ⟨rfl, ⟨nd, rfl⟩⟩; (try exact dr_)))
 repeat (go_quiet (first | ((with_reducible refine gate_dst (N := 2) rfl ?_); refine bx_ 2 #[.int .i64 a0_0, .slice A0_1 l0_1.length c0_1] 38 ?_; intro gb147 hg w6 hbox hb; have n0_ := mk_ (below_step (below_at HB.out) hb); have n1_ := mk_ (hbox); have n2_ := mk_ (gb_ hg HB.out); have n3_ := mk_ (gb_ hg HB.out); clear HB; have HB := n0_; have BK147 := n1_; have GW147 := n2_; have GE147 := n3_; clear n0_ n1_ n2_ n3_; clear hb hbox hg; have hcz7_0 := blk_cell BK147.out 0; have hcz7_1 := blk_cell BK147.out 1; have hfz7_0 := blk_frozen BK147.out 0; have hfz7_1 := blk_frozen BK147.out 1) | (go_at_call 113; (with_reducible refine (spec_l3Holds.calls k _ _ l0_1 a1 t148 _ ?side1 ?side2 A5.out).mono ?_); (case side1 => exact Kd.C_below (Kd.C_below HR0_1.out HB.out) lt_); (case side2 => exact HC0_1.out); rintro e w' ⟨rfl, ⟨nd, rfl⟩⟩; (try exact dr_))); try go_wp2_with (first | ((with_reducible refine gate_dst (N := 2) rfl ?_); refine bx_ 2 #[.int .i64 a0_0, .slice A0_1 l0_1.length c0_1] 38 ?_; intro gb147 hg w6 hbox hb; have BK147 := mk_ (hbox); have GW147 := mk_ (gb_ hg HB.out); have GE147 := mk_ (gb_ hg HB.out); replace HB := mk_ (below_step (below_at HB.out) hb); clear hb hbox hg; have hcz7_0 := blk_cell BK147.out 0; have hcz7_1 := blk_cell BK147.out 1; have hfz7_0 := blk_frozen BK147.out 0; have hfz7_1 := blk_frozen BK147.out 1) | (go_at_call 113; (with_reducible refine (spec_l3Holds.calls k _ _ l0_1 a1 t148 _ ?side1 ?side2 A5.out).mono ?_); (case side1 => exact Kd.C_below (Kd.C_below HR0_1.out HB.out) lt_); (case side2 => exact HC0_1.out); rintro e w' ⟨rfl, ⟨nd, rfl⟩⟩; (try exact dr_))))
 go_ret
 exact ⟨by first | rfl | (simp [errW_none, errW_some] <;> rfl) | (simp only [← hji4]; first | rfl | (simp [errW_none, errW_some] <;> rfl)) | (simp [*, errW_none, errW_some] <;> rfl), at_ HB.out⟩
def spec_l4Table.l0 : Nat → Int → Int → Int → Int → List (S47) → Option (Int)
 | 0, _, _, _, _, _ => none
 | k + 1, x0, x5, x6, x150000, x150001 => if 0 ≤ x0 then (if x6 < (shl .i64 1 x0) then ((spec_l4May.f k x150000 x150001 x6).bind fun t150 => (if t150 = true then (if 0 ≤ x6 then (spec_l4Table.l0 k x0 (Go.bits .or .i64 x5 (shl .i64 1 x6)) (wrap64 (x6 + 1)) x150000 x150001) else (none)) else (spec_l4Table.l0 k x0 x5 (wrap64 (x6 + 1)) x150000 x150001))) else (some x5)) else (none)
def spec_l4Table.f (k : Nat) (a0 : Int) (a1_0 : Int) (l1_1 : List (S47)) : Option (Int) := spec_l4Table.l0 k a0 0 0 a1_0 l1_1
set_option maxHeartbeats 8000000 in
set_option maxRecDepth 100000 in
theorem spec_l4Table.calls (k : Nat) (a0 : Int) (a1_0 : Int) (A1_1 : Option Addr) (c1_1 : Nat) (l1_1 : List (S47)) (r : Int) (w : World) (hr1_1 : Kd.C k47 w A1_1 l1_1.length l1_1) (hc1_1 : l1_1.length ≤ c1_1) (h : spec_l4Table.f k a0 a1_0 l1_1 = some r) :
  Calls Try.prog 111 #[.int .i64 a0, .agg #[.int .i64 a1_0, .slice A1_1 l1_1.length c1_1]] w fun e w' => e = .returned (.int .i64 r) ∧ Below w.heap.size w w' := by
 have hu38 := Try.underlying38
 have HR1_1 := mk_ hr1_1
 have HC1_1 := mk_ hc1_1
 clear hr1_1 hc1_1
 have HB := mk_ (Below.refl w.heap.size w)
 have H : (spec_l4Table.l0 k a0 0 0 a1_0 l1_1) = some r := h
 clear h
 have H' := mk_ H
 clear H
 go_enter Try.func111, Try.ntmps111
 go_wp2_with (first | ((with_reducible refine gate_dst (N := 3) rfl ?_); refine bx_ 3 #[.int .i64 a1_0, .slice A1_1 l1_1.length c1_1] 38 ?_; intro gb149 hg w3 hbox hb; have BK149 := mk_ (hbox); have GW149 := mk_ (gb_ hg HB.out); have GE149 := mk_ (gb_ hg HB.out); replace HB := mk_ (below_step (below_at HB.out) hb); clear hb hbox hg))
 go_loopg [5, 6] k (fun kq v5 v6 w' => ∃ (x5_1 : Int) (x6_1 : Int), v5 = .int .i64 x5_1 ∧ v6 = .int .i64 x6_1 ∧ Aside0 (spec_l4Table.l0 kq a0 x5_1 x6_1 a1_0 l1_1 = some r) ∧ Aside0 (kq ≤ k) ∧ Aside0 (w'.heap[gb149]? = some (.cells #[.int .i64 a1_0, (.slice A1_1 l1_1.length c1_1)] 38 (0, 0))) ∧ Aside0 (Below w.heap.size w w'))
 case atStart => exact ⟨(0), (0), sm_, sm_, H', ⟨Nat.le_refl _⟩, ⟨by refine bs_ ?_; exact BK149.out⟩, ⟨at_ HB.out⟩⟩
 clear H'
 try clear c1
 try clear p2
 obtain ⟨x5_1, x6_1, rfl, rfl, HA, HK1, BK149, HB⟩ := hrel
 cases gk with
 | zero => exact absurd HA.out (by simp [spec_l4Table.l0])
 | succ k1 =>
  have H := HA.out
  clear HA
  simp only [spec_l4Table.l0] at H
  by_cases c4 : 0 ≤ a0
  rotate_left
  ·rw [if_neg c4] at H
   exact absurd H (by simp)
  rw [if_pos c4] at H
  have c4b0 := eq_true c4
  have c4b1 : decide (0 ≤ a0) = true := decide_eq_true c4
  clear c4
  obtain ⟨ji5, hji5⟩ : ∃ j_ : Int, (shl .i64 1 a0) = j_ := ⟨_, rfl⟩
  first | rw [hji5] at H | simp only [hji5] at H
  have hji5_ : (IntKind.i64.wrap (1 * 2 ^ min a0.toNat 64)) = ji5 := hji5
  have hji5z : a0 ≤ 64 → (IntKind.i64.wrap (1 * 2 ^ a0.toNat)) = ji5 := shl_small hji5
  have hji5u : (IntKind.i64.wrap (2 ^ min a0.toNat 64)) = ji5 := by have h_ := hji5_; rw [Int.one_mul] at h_; exact h_
  have hji5v : a0 ≤ 64 → (IntKind.i64.wrap (2 ^ a0.toNat)) = ji5 := fun hle_ => by have h_ := hji5z hle_; rw [Int.one_mul] at h_; exact h_
  have hji5y : (wrap64 (1 * 2 ^ min a0.toNat 64)) = ji5 := (i64_w _).symm.trans hji5_
  have hji5x : a0 ≤ 64 → (wrap64 (1 * 2 ^ a0.toNat)) = ji5 := fun h_ => (i64_w _).symm.trans (hji5z h_)
  by_cases c6 : x6_1 < (ji5)
  rotate_left
  ·rw [if_neg c6] at H
   have c6b0 : decide (x6_1 < (ji5)) = false := decide_eq_false c6
   clear c6
   obtain rfl := Option.some.inj H
   go_wp2
   go_ret
   exact ⟨by first | rfl | (simp [errW_none, errW_some] <;> rfl) | (simp only [← hji5]; first | rfl | (simp [errW_none, errW_some] <;> rfl)) | (simp [*, errW_none, errW_some] <;> rfl), at_ HB.out⟩
  rw [if_pos c6] at H
  have c6b0 : decide (x6_1 < (ji5)) = true := decide_eq_true c6
  clear c6
  replace H := Option.bind_eq_some_iff.mp H
  obtain ⟨t150, A70, H⟩ := H
  try dsimp only at H
  have A7 := mk_ A70
  clear A70
  by_cases c8 : t150 = true
  rotate_left
  ·replace c8 := Bool.eq_false_iff.mpr c8
   subst c8
   rw [if_neg Bool.false_ne_true] at H
   have H' := mk_ H
   clear H
   have hcz13_0 : wr.cell? ⟨gb149, 0, none⟩ = some (.int .i64 a1_0) := (blk_cell BK149.out 0).trans rfl
   have hcz13_1 : wr.cell? ⟨gb149, 1, none⟩ = some (.slice A1_1 l1_1.length c1_1) := (blk_cell BK149.out 1).trans rfl
   have hfz13_0 := blk_frozen BK149.out 0
   have hfz13_1 := blk_frozen BK149.out 1
   go_wp2_with (first | ((with_reducible refine gate_callee (f := 101) rfl ?_); refine goesL_ (some 15) rfl rfl Try.func101 (by kernel_rfl) rfl #[.agg #[.int .i64 a1_0, .slice A1_1 l1_1.length c1_1], .int .i64 x6_1] rfl gl_ ?_; (with_reducible refine (spec_l4May.calls k1 a1_0 _ _ l1_1 x6_1 false _ ?side1 ?side2 A7.out).mono ?_); (case side1 => exact Kd.C_below (Kd.C_below HR1_1.out HB.out) lt_); (case side2 => exact HC1_1.out); rintro e w14 ⟨rfl, hb⟩; refine ⟨_, rfl, ?_⟩; replace BK149 := mk_ (blk_at BK149.out hb); replace HB := mk_ (below_step (at_ HB.out) hb); (try clear hb)))
   go_roundg k1
   case measure => have := HK1.out; omega
   case rel => exact ⟨(x5_1), (wrap64 (x6_1 + 1)), sm_, sm_, H', ⟨by have := HK1.out; omega⟩, ⟨by refine bs_ ?_; exact BK149.out⟩, ⟨at_ HB.out⟩⟩
  subst c8
  rw [if_pos rfl] at H
  by_cases c9 : 0 ≤ x6_1
  rotate_left
  ·rw [if_neg c9] at H
   exact absurd H (by simp)
  rw [if_pos c9] at H
  have c9b0 := eq_true c9
  have c9b1 : decide (0 ≤ x6_1) = true := decide_eq_true c9
  clear c9
  obtain ⟨ji10, hji10⟩ : ∃ j_ : Int, (shl .i64 1 x6_1) = j_ := ⟨_, rfl⟩
  first | rw [hji10] at H | simp only [hji10] at H
  (try rw [hji10] at A7)
  have hji10_ : (IntKind.i64.wrap (1 * 2 ^ min x6_1.toNat 64)) = ji10 := hji10
  have hji10z : x6_1 ≤ 64 → (IntKind.i64.wrap (1 * 2 ^ x6_1.toNat)) = ji10 := shl_small hji10
  have hji10u : (IntKind.i64.wrap (2 ^ min x6_1.toNat 64)) = ji10 := by have h_ := hji10_; rw [Int.one_mul] at h_; exact h_
  have hji10v : x6_1 ≤ 64 → (IntKind.i64.wrap (2 ^ x6_1.toNat)) = ji10 := fun hle_ => by have h_ := hji10z hle_; rw [Int.one_mul] at h_; exact h_
  have hji10y : (wrap64 (1 * 2 ^ min x6_1.toNat 64)) = ji10 := (i64_w _).symm.trans hji10_
  have hji10x : x6_1 ≤ 64 → (wrap64 (1 * 2 ^ x6_1.toNat)) = ji10 := fun h_ => (i64_w _).symm.trans (hji10z h_)
  have H' := mk_ H
  clear H
  have hcz11_0 : wr.cell? ⟨gb149, 0, none⟩ = some (.int .i64 a1_0) := (blk_cell BK149.out 0).trans rfl
  have hcz11_1 : wr.cell? ⟨gb149, 1, none⟩ = some (.slice A1_1 l1_1.length c1_1) := (blk_cell BK149.out 1).trans rfl
  have hfz11_0 := blk_frozen BK149.out 0
  have hfz11_1 := blk_frozen BK149.out 1
  go_wp2_with (first | ((with_reducible refine gate_callee (f := 101) rfl ?_); refine goesL_ (some 15) rfl rfl Try.func101 (by kernel_rfl) rfl #[.agg #[.int .i64 a1_0, .slice A1_1 l1_1.length c1_1], .int .i64 x6_1] rfl gl_ ?_; (with_reducible refine (spec_l4May.calls k1 a1_0 _ _ l1_1 x6_1 true _ ?side1 ?side2 A7.out).mono ?_); (case side1 => exact Kd.C_below (Kd.C_below HR1_1.out HB.out) lt_); (case side2 => exact HC1_1.out); rintro e w12 ⟨rfl, hb⟩; refine ⟨_, rfl, ?_⟩; replace BK149 := mk_ (blk_at BK149.out hb); replace HB := mk_ (below_step (at_ HB.out) hb); (try clear hb)))
  go_roundg k1
  case measure => have := HK1.out; omega
  case rel => exact ⟨(Go.bits .or .i64 x5_1 (ji10)), (wrap64 (x6_1 + 1)), (by first | rfl | (simp; done) | (simp only [← hji10] <;> (first | rfl | simp)) | (simp [*]; done)), sm_, H', ⟨by have := HK1.out; omega⟩, ⟨by refine bs_ ?_; exact BK149.out⟩, ⟨at_ HB.out⟩⟩
def spec_l11Closes.f (k : Nat) (a0 : Int) (l1 : List (S38)) (l2 : List (S47)) (a3 : Int) (l4 : List Int) : Option (Bool) := (spec_l11Agree.f k a0 l4).bind fun t151 => (if a3 = (-1) then ((spec_l3Table.f k a0 l2).bind fun t152 => (some ((Go.bits .andNot .i64 t151 t152) == 0))) else ((spec_l1In.f (wrap64 ((-2) - a3)) 0 (wrap64 ((l1.length : Int) - 1))).bind fun t153 => (if t153 = true then (if 0 ≤ (wrap64 ((-2) - a3)) then (if (wrap64 ((-2) - a3)) < (l1.length : Int) then ((spec_l4Table.f k a0 ((rd_T38 l1 (wrap64 ((-2) - a3))).f0) ((rd_T38 l1 (wrap64 ((-2) - a3))).f1)).bind fun t155 => (some ((Go.bits .and .i64 t151 t155) == 0))) else (none)) else (none)) else (some false))))
set_option maxHeartbeats 8000000 in
set_option maxRecDepth 100000 in
theorem spec_l11Closes.calls (k : Nat) (a0 : Int) (A1 : Option Addr) (c1 : Nat) (l1 : List (S38)) (A2 : Option Addr) (c2 : Nat) (l2 : List (S47)) (a3 : Int) (A4 : Option Addr) (c4 : Nat) (l4 : List Int) (r : Bool) (w : World) (hr1 : Kd.C k38 w A1 l1.length l1) (hc1 : l1.length ≤ c1) (hr2 : Kd.C k47 w A2 l2.length l2) (hc2 : l2.length ≤ c2) (hr4 : Kd.C (Kd.int .i64) w A4 l4.length l4) (hc4 : l4.length ≤ c4) (h : spec_l11Closes.f k a0 l1 l2 a3 l4 = some r) :
  Calls Try.prog 95 #[.int .i64 a0, .slice A1 l1.length c1, .slice A2 l2.length c2, .int .i64 a3, .slice A4 l4.length c4] w fun e w' => e = .returned (.bool r) ∧ Below w.heap.size w w' := by
 have hu38 := Try.underlying38
 have HR1 := mk_ hr1
 have HC1 := mk_ hc1
 clear hr1 hc1
 have HR2 := mk_ hr2
 have HC2 := mk_ hc2
 clear hr2 hc2
 have HR4 := mk_ hr4
 have HC4 := mk_ hc4
 clear hr4 hc4
 have HB := mk_ (Below.refl w.heap.size w)
 unfold spec_l11Closes.f at h
 have H := h
 clear h
 replace H := Option.bind_eq_some_iff.mp H
 obtain ⟨t151, A60, H⟩ := H
 try dsimp only at H
 have A6 := mk_ A60
 clear A60
 by_cases c7 : a3 = (-1)
 ·rw [if_pos c7] at H
  have c7b0 : (a3 == (-1)) = true := beq_iff_eq.mpr c7
  have c7b1 : (a3 != (-1)) = false := bne_eq_false_iff_eq.mpr c7
  clear c7
  replace H := Option.bind_eq_some_iff.mp H
  obtain ⟨t152, A80, H⟩ := H
  try dsimp only at H
  have A8 := mk_ A80
  clear A80
  obtain rfl := Option.some.inj H
  go_enter Try.func95, Try.ntmps95
  go_wp2_with (first | ((with_reducible refine gate_callee (f := 109) rfl ?_); refine goesL_ (some 14) rfl rfl Try.func109 (by kernel_rfl) rfl #[.int .i64 a0, .slice A4 l4.length c4] rfl gl_ ?_; (with_reducible refine (spec_l11Agree.calls k a0 _ _ l4 t151 _ ?side1 ?side2 A6.out).mono ?_); (case side1 => exact Kd.C_below HR4.out lt_); (case side2 => exact HC4.out); rintro e w' ⟨rfl, ⟨nd, rfl⟩⟩; refine ⟨_, rfl, ?_⟩) | ((with_reducible refine gate_callee (f := 110) rfl ?_); refine goesL_ (some 20) rfl rfl Try.func110 (by kernel_rfl) rfl #[.int .i64 a0, .slice A2 l2.length c2] rfl gl_ ?_; (with_reducible refine (spec_l3Table.calls k a0 _ _ l2 t152 _ ?side1 ?side2 A8.out).mono ?_); (case side1 => exact Kd.C_below HR2.out lt_); (case side2 => exact HC2.out); rintro e w' ⟨rfl, ⟨nd, rfl⟩⟩; refine ⟨_, rfl, ?_⟩))
  go_ret
  exact ⟨er_, below_at HB.out⟩
 rw [if_neg c7] at H
 have c7b0 : (a3 == (-1)) = false := beq_eq_false_iff_ne.mpr c7
 have c7b1 : (a3 != (-1)) = true := bne_iff_ne.mpr c7
 replace H := Option.bind_eq_some_iff.mp H
 obtain ⟨t153, A90, H⟩ := H
 try dsimp only at H
 have A9 := mk_ A90
 clear A90
 by_cases c10 : t153 = true
 rotate_left
 ·replace c10 := Bool.eq_false_iff.mpr c10
  subst c10
  rw [if_neg Bool.false_ne_true] at H
  obtain rfl := Option.some.inj H
  go_enter Try.func95, Try.ntmps95
  go_wp2_with (first | ((with_reducible refine gate_callee (f := 109) rfl ?_); refine goesL_ (some 14) rfl rfl Try.func109 (by kernel_rfl) rfl #[.int .i64 a0, .slice A4 l4.length c4] rfl gl_ ?_; (with_reducible refine (spec_l11Agree.calls k a0 _ _ l4 t151 _ ?side1 ?side2 A6.out).mono ?_); (case side1 => exact Kd.C_below HR4.out lt_); (case side2 => exact HC4.out); rintro e w' ⟨rfl, ⟨nd, rfl⟩⟩; refine ⟨_, rfl, ?_⟩) | ((with_reducible refine gate_callee (f := 47) rfl ?_); refine goesL_ (some 28) rfl rfl Try.func47 (by kernel_rfl) rfl #[.int .i64 (wrap64 ((-2) - a3)), .int .i64 0, .int .i64 (wrap64 ((l1.length : Int) - 1))] rfl gl_ ?_; (with_reducible refine (spec_l1In.calls (wrap64 ((-2) - a3)) 0 (wrap64 ((l1.length : Int) - 1)) false _ A9.out).mono ?_); rintro e w' ⟨rfl, ⟨nd, rfl⟩⟩; refine ⟨_, rfl, ?_⟩))
  go_ret
  exact ⟨er_, below_at HB.out⟩
 subst c10
 rw [if_pos rfl] at H
 obtain ⟨ji11, hji11⟩ : ∃ j_ : Int, (wrap64 ((-2) - a3)) = j_ := ⟨_, rfl⟩
 first | rw [hji11] at H | simp only [hji11] at H
 (try rw [hji11] at A6)
 (try rw [hji11] at A9)
 have hji11w : (IntKind.i64.wrap ((-2) - a3)) = ji11 := (i64_w _).trans hji11
 by_cases c12 : 0 ≤ (ji11)
 rotate_left
 ·rw [if_neg c12] at H
  exact absurd H (by simp)
 rw [if_pos c12] at H
 have c12b0 : decide (0 ≤ (ji11)) = true := decide_eq_true c12
 clear c12
 by_cases c13 : (ji11) < (l1.length : Int)
 rotate_left
 ·rw [if_neg c13] at H
  exact absurd H (by simp)
 rw [if_pos c13] at H
 have c13b0 : decide ((ji11) < (l1.length : Int)) = true := decide_eq_true c13
 clear c13
 replace H := Option.bind_eq_some_iff.mp H
 obtain ⟨t155, A140, H⟩ := H
 try dsimp only at H
 have A14 := mk_ A140
 clear A140
 obtain rfl := Option.some.inj H
 go_enter Try.func95, Try.ntmps95
 go_wp2_with (first | ((with_reducible refine gate_callee (f := 109) rfl ?_); refine goesL_ (some 14) rfl rfl Try.func109 (by kernel_rfl) rfl #[.int .i64 a0, .slice A4 l4.length c4] rfl gl_ ?_; (with_reducible refine (spec_l11Agree.calls k a0 _ _ l4 t151 _ ?side1 ?side2 A6.out).mono ?_); (case side1 => exact Kd.C_below HR4.out lt_); (case side2 => exact HC4.out); rintro e w' ⟨rfl, ⟨nd, rfl⟩⟩; refine ⟨_, rfl, ?_⟩) | ((with_reducible refine gate_callee (f := 47) rfl ?_); refine goesL_ (some 28) rfl rfl Try.func47 (by kernel_rfl) rfl #[.int .i64 ji11, .int .i64 0, .int .i64 (wrap64 ((l1.length : Int) - 1))] rfl (by (try simp only [List.map_toArray, List.map_cons, List.map_nil]); first | done | (simp only [hji11]; rfl) | rfl | (simp only [List.length_drop, List.length_take]; rfl)) ?_; (with_reducible refine (spec_l1In.calls ji11 0 (wrap64 ((l1.length : Int) - 1)) true _ A9.out).mono ?_); rintro e w' ⟨rfl, ⟨nd, rfl⟩⟩; refine ⟨_, rfl, ?_⟩; have p154 : 0 ≤ ((ji11) : Int) := oa_; have q154 : (ji11) < (l1.length : Int) := oa_; obtain ⟨ad154, A154_1, c154_1, e154, hx154_0, hx154_1, hl154_1, hi154_1⟩ := at_T38 HR1.out (ji11) p154 q154; cases e154; have HR154_1 := mk_ hi154_1; have HC154_1 := mk_ hl154_1; clear hi154_1 hl154_1; replace p154 := eq_true p154; replace q154 := eq_true q154) | (go_at_call 111; (with_reducible refine (spec_l4Table.calls k a0 ((rd_T38 l1 (ji11)).f0) _ _ ((rd_T38 l1 (ji11)).f1) t155 _ ?side1 ?side2 A14.out).mono ?_); (case side1 => exact Kd.C_below HR154_1.out lt_); (case side2 => exact HC154_1.out); rintro e w15 ⟨rfl, hb⟩; replace HB := mk_ (below_step (below_at HB.out) hb); (try clear hb)))
 go_ret
 exact ⟨by first | rfl | (simp [errW_none, errW_some] <;> rfl) | (simp only [← hji11]; first | rfl | (simp [errW_none, errW_some] <;> rfl)) | (simp [*, errW_none, errW_some] <;> rfl), below_at HB.out⟩
end Go.Proofs.Ytcaogllnbpmcgaa.P

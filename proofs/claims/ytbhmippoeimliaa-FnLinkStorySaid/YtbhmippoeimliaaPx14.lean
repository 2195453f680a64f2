/- Written by our program myprint.py out of Lean's print of the translation: Go's function comes to just the answer of the Lean function told here. -/
import Derived.Test.YtbhmippoeimliaaPx0
import Derived.Test.YtbhmippoeimliaaPx13
namespace Go.Proofs.Ytbhmippoeimliaa.P
open Go.RowKit Go.Proofs.YtbhmippoeimliaaW.PrintWords Go.Proofs.YtbhmippoeimliaaW.PrintLast Go.Proofs.YtbhmippoeimliaaW.PrintMore
attribute [local go_sem] max2_int min2_int max_two min_two max_three min_three max_four min_four   -- for this text's walks alone
set_option linter.unusedVariables false
set_option linter.unusedSimpArgs false

/-! ### spec_l3Holds: function 111 -/
def spec_l3Holds.f : Nat → List (S81) → Int → Option (Bool)
 | 0, _, _ => none
 | k + 1, l0, a1 => if 0 ≤ (wrap64 ((l0.length : Int) - 1)) then (if (wrap64 ((l0.length : Int) - 1)) < (l0.length : Int) then (if ((rd_T81 l0 (wrap64 ((l0.length : Int) - 1))).f0) = 0 then (if 0 ≤ ((rd_T81 l0 (wrap64 ((l0.length : Int) - 1))).f1) then (some ((Int.tmod (shr .i64 a1 ((rd_T81 l0 (wrap64 ((l0.length : Int) - 1))).f1)) 2) == 1)) else (none)) else (if ((rd_T81 l0 (wrap64 ((l0.length : Int) - 1))).f0) = 1 then ((spec_l1Heads.f k a1).bind fun t289 => (some (decide (t289 ≥ ((rd_T81 l0 (wrap64 ((l0.length : Int) - 1))).f1))))) else (if ((rd_T81 l0 (wrap64 ((l0.length : Int) - 1))).f0) = 2 then (if (wrap64 ((l0.length : Int) - 1)) ≤ (l0.length : Int) then ((spec_l3Holds.f k (l0.take ((wrap64 ((l0.length : Int) - 1)) : Int).toNat) a1).bind fun t295 => (some (!t295))) else (none)) else ((spec_l2Starts.f k l0 (wrap64 ((wrap64 ((l0.length : Int) - 1)) - 1))).bind fun t296 => (if 0 ≤ t296 then (if t296 ≤ (l0.length : Int) then ((spec_l3Holds.f k (l0.take (t296 : Int).toNat) a1).bind fun t301 => (if t296 ≤ (wrap64 ((l0.length : Int) - 1)) then (if (wrap64 ((l0.length : Int) - 1)) ≤ (l0.length : Int) then ((spec_l3Holds.f k ((l0.take ((wrap64 ((l0.length : Int) - 1)) : Int).toNat).drop (t296 : Int).toNat) a1).bind fun t306 => (if ((rd_T81 l0 (wrap64 ((l0.length : Int) - 1))).f0) = 3 then (if t301 = true then (some t306) else (some false)) else (if ((rd_T81 l0 (wrap64 ((l0.length : Int) - 1))).f0) = 4 then (if t301 = true then (some true) else (some t306)) else (some (t301 == t306))))) else (none)) else (none))) else (none)) else (none)))))) else (none)) else (none)
theorem spec_l3Holds.mono_l : ∀ k, (∀ y0 y1, LeO (spec_l3Holds.f k y0 y1) (spec_l3Holds.f (k + 1) y0 y1))
 | 0 => fun _ _ r h => by simp [spec_l3Holds.f] at h
 | k + 1 => by
  have ih0 := spec_l3Holds.mono_l k
  ·intro y0 y1
   unfold spec_l3Holds.f
   repeat' first
   | (with_reducible exact ih0 _ _)
   | (with_reducible exact spec_l1Heads.mono _ _)
   | (with_reducible exact spec_l2Starts.mono _ _ _)
   | (with_reducible exact LeO.refl _)
   | (with_reducible exact LeO.none _)
   | (with_reducible refine LeO.ite ?_ ?_)
   | (with_reducible refine LeO.bind ?_ (fun _ => ?_))
   | exact ih0 _ _
   | exact spec_l1Heads.mono _ _
   | exact spec_l2Starts.mono _ _ _
   | exact LeO.none _
   | refine LeO.ite ?_ ?_
   | refine LeO.bind ?_ (fun _ => ?_)
theorem spec_l3Holds.mono : ∀ a0 a1 k, LeO (spec_l3Holds.f k a0 a1) (spec_l3Holds.f (k + 1) a0 a1) := by
 intro a0 a1 k
 have ih0 := spec_l3Holds.mono_l k
 exact ih0 a0 a1
set_option maxHeartbeats 8000000 in
set_option maxRecDepth 100000 in
theorem spec_l3Holds.calls (k : Nat) : ∀ (A0 : Option Addr) (c0 : Nat) (l0 : List (S81)) (a1 : Int) (r : Bool) (w : World) (hr0 : Kd.C k81 w A0 l0.length l0) (hc0 : l0.length ≤ c0) (h : spec_l3Holds.f k l0 a1 = some r),
  Calls Try.prog 111 #[.slice A0 l0.length c0, .int .i64 a1] w fun e w' => e = .returned (.bool r) ∧ Drawn0 w w' := by
 induction k using Nat.strongRecOn with
 | _ k ih =>
 intro A0 c0 l0 a1 r w hr0 hc0 h
 cases k with
 | zero => exact absurd h (by simp [spec_l3Holds.f])
 | succ k =>
 simp only [spec_l3Holds.f] at h
 have HR0 := Aside0.mk hr0
 have HC0 := Aside0.mk hc0
 clear hr0 hc0
 have H : (if 0 ≤ (wrap64 ((l0.length : Int) - 1)) then (if (wrap64 ((l0.length : Int) - 1)) < (l0.length : Int) then (if ((rd_T81 l0 (wrap64 ((l0.length : Int) - 1))).f0) = 0 then (if 0 ≤ ((rd_T81 l0 (wrap64 ((l0.length : Int) - 1))).f1) then (some ((Int.tmod (shr .i64 a1 ((rd_T81 l0 (wrap64 ((l0.length : Int) - 1))).f1)) 2) == 1)) else (none)) else (if ((rd_T81 l0 (wrap64 ((l0.length : Int) - 1))).f0) = 1 then ((spec_l1Heads.f k a1).bind fun t289 => (some (decide (t289 ≥ ((rd_T81 l0 (wrap64 ((l0.length : Int) - 1))).f1))))) else (if ((rd_T81 l0 (wrap64 ((l0.length : Int) - 1))).f0) = 2 then (if (wrap64 ((l0.length : Int) - 1)) ≤ (l0.length : Int) then ((spec_l3Holds.f k (l0.take ((wrap64 ((l0.length : Int) - 1)) : Int).toNat) a1).bind fun t295 => (some (!t295))) else (none)) else ((spec_l2Starts.f k l0 (wrap64 ((wrap64 ((l0.length : Int) - 1)) - 1))).bind fun t296 => (if 0 ≤ t296 then (if t296 ≤ (l0.length : Int) then ((spec_l3Holds.f k (l0.take (t296 : Int).toNat) a1).bind fun t301 => (if t296 ≤ (wrap64 ((l0.length : Int) - 1)) then (if (wrap64 ((l0.length : Int) - 1)) ≤ (l0.length : Int) then ((spec_l3Holds.f k ((l0.take ((wrap64 ((l0.length : Int) - 1)) : Int).toNat).drop (t296 : Int).toNat) a1).bind fun t306 => (if ((rd_T81 l0 (wrap64 ((l0.length : Int) - 1))).f0) = 3 then (if t301 = true then (some t306) else (some false)) else (if ((rd_T81 l0 (wrap64 ((l0.length : Int) - 1))).f0) = 4 then (if t301 = true then (some true) else (some t306)) else (some (t301 == t306))))) else (none)) else (none))) else (none)) else (none)))))) else (none)) else (none)) = some r := h
 clear h
 obtain ⟨ji3, hji3⟩ : ∃ j_ : Int, (wrap64 ((l0.length : Int) - 1)) = j_ := ⟨_, rfl⟩
 replace H : (if 0 ≤ (ji3) then (if (ji3) < (l0.length : Int) then (if ((rd_T81 l0 (ji3)).f0) = 0 then (if 0 ≤ ((rd_T81 l0 (ji3)).f1) then (some ((Int.tmod (shr .i64 a1 ((rd_T81 l0 (ji3)).f1)) 2) == 1)) else (none)) else (if ((rd_T81 l0 (ji3)).f0) = 1 then ((spec_l1Heads.f k a1).bind fun t289 => (some (decide (t289 ≥ ((rd_T81 l0 (ji3)).f1))))) else (if ((rd_T81 l0 (ji3)).f0) = 2 then (if (ji3) ≤ (l0.length : Int) then ((spec_l3Holds.f k (l0.take ((ji3) : Int).toNat) a1).bind fun t295 => (some (!t295))) else (none)) else ((spec_l2Starts.f k l0 (wrap64 ((ji3) - 1))).bind fun t296 => (if 0 ≤ t296 then (if t296 ≤ (l0.length : Int) then ((spec_l3Holds.f k (l0.take (t296 : Int).toNat) a1).bind fun t301 => (if t296 ≤ (ji3) then (if (ji3) ≤ (l0.length : Int) then ((spec_l3Holds.f k ((l0.take ((ji3) : Int).toNat).drop (t296 : Int).toNat) a1).bind fun t306 => (if ((rd_T81 l0 (ji3)).f0) = 3 then (if t301 = true then (some t306) else (some false)) else (if ((rd_T81 l0 (ji3)).f0) = 4 then (if t301 = true then (some true) else (some t306)) else (some (t301 == t306))))) else (none)) else (none))) else (none)) else (none)))))) else (none)) else (none)) = some r := by first | (rw [hji3] at H; exact H) | (simp only [hji3] at H ⊢; exact H)
 have hji3w : (IntKind.i64.wrap ((l0.length : Int) - 1)) = ji3 := (i64_w _).trans hji3
 by_cases c4 : 0 ≤ (ji3)
 ·rw [if_pos c4] at H
  have c4b0 : decide (0 ≤ (ji3)) = true := decide_eq_true c4
  clear c4
  by_cases c5 : (ji3) < (l0.length : Int)
  ·rw [if_pos c5] at H
   have c5b0 : decide ((ji3) < (l0.length : Int)) = true := decide_eq_true c5
   clear c5
   by_cases c6 : ((rd_T81 l0 (ji3)).f0) = 0
   ·rw [if_pos c6] at H
    have c6b0 : (((rd_T81 l0 (ji3)).f0) == 0) = true := beq_iff_eq.mpr c6
    have c6b1 : (((rd_T81 l0 (ji3)).f0) != 0) = false := bne_eq_false_iff_eq.mpr c6
    clear c6
    by_cases c7 : 0 ≤ ((rd_T81 l0 (ji3)).f1)
    ·rw [if_pos c7] at H
     have c7b0 := eq_true c7
     have c7b1 : decide (0 ≤ ((rd_T81 l0 (ji3)).f1)) = true := decide_eq_true c7
     clear c7
     obtain ⟨ji8, hji8⟩ : ∃ j_ : Int, (shr .i64 a1 ((rd_T81 l0 (ji3)).f1)) = j_ := ⟨_, rfl⟩
     replace H : (some ((Int.tmod (ji8) 2) == 1)) = some r := by first | (rw [hji8] at H; exact H) | (simp only [hji8] at H ⊢; exact H)
     have hji8_ : (a1 / 2 ^ min ((rd_T81 l0 (ji3)).f1).toNat 64) = ji8 := hji8
     have hji8z : ((rd_T81 l0 (ji3)).f1) ≤ 64 → (a1 / 2 ^ ((rd_T81 l0 (ji3)).f1).toNat) = ji8 := shr_small hji8
     obtain rfl := Option.some.inj H
     have p287 : 0 ≤ ((ji3) : Int) := of_decide_eq_true (by first | (with_reducible assumption) | assumption)
     have q287 : (ji3) < (l0.length : Int) := of_decide_eq_true (by first | (with_reducible assumption) | assumption)
     obtain ⟨ad287, e287, hx287_0, hx287_1⟩ := at_T81 HR0.out (ji3) p287 q287
     cases e287
     replace p287 := eq_true p287
     replace q287 := eq_true q287
     have p288 : 0 ≤ ((ji3) : Int) := of_decide_eq_true (by first | (with_reducible assumption) | assumption)
     have q288 : (ji3) < (l0.length : Int) := of_decide_eq_true (by first | (with_reducible assumption) | assumption)
     obtain ⟨ad288, e288, hx288_0, hx288_1⟩ := at_T81 HR0.out (ji3) p288 q288
     obtain rfl : ad287 = ad288 := (by injection e288)
     replace p288 := eq_true p288
     replace q288 := eq_true q288
     go_enter Try.func111, Try.ntmps111
     go_wp2
     repeat (go_quiet (fail); try go_wp2)
     go_ret
     exact ⟨by first | rfl | (simp; done) | (simp only [← hji3, ← hji8] <;> (first | rfl | simp)) | (simp [*]; done), by repeat (first | exact Drawn0.refl _ | apply Drawn0.step)⟩
    ·rw [if_neg c7] at H
     exact absurd H (by simp)
   ·rw [if_neg c6] at H
    have c6b0 : (((rd_T81 l0 (ji3)).f0) == 0) = false := beq_eq_false_iff_ne.mpr c6
    have c6b1 : (((rd_T81 l0 (ji3)).f0) != 0) = true := bne_iff_ne.mpr c6
    by_cases c9 : ((rd_T81 l0 (ji3)).f0) = 1
    ·rw [if_pos c9] at H
     have c9b0 : (((rd_T81 l0 (ji3)).f0) == 1) = true := beq_iff_eq.mpr c9
     have c9b1 : (((rd_T81 l0 (ji3)).f0) != 1) = false := bne_eq_false_iff_eq.mpr c9
     clear c9
     replace H := Option.bind_eq_some_iff.mp H
     obtain ⟨t289, A100, H⟩ := H
     replace H : (some (decide (t289 ≥ ((rd_T81 l0 (ji3)).f1)))) = some r := H
     have A10 := Aside0.mk A100
     clear A100
     obtain rfl := Option.some.inj H
     have p287 : 0 ≤ ((ji3) : Int) := of_decide_eq_true (by first | (with_reducible assumption) | assumption)
     have q287 : (ji3) < (l0.length : Int) := of_decide_eq_true (by first | (with_reducible assumption) | assumption)
     obtain ⟨ad287, e287, hx287_0, hx287_1⟩ := at_T81 HR0.out (ji3) p287 q287
     cases e287
     replace p287 := eq_true p287
     replace q287 := eq_true q287
     go_enter Try.func111, Try.ntmps111
     go_wp2_with (first | (go_at_call 91; (with_reducible refine (spec_l1Heads.calls k a1 t289 _ A10.out).mono ?_); rintro e w' ⟨rfl, ⟨nd, rfl⟩⟩; (try first | exact ⟨rfl, _, World.drewN_drewN _ _ _⟩ | exact ⟨rfl, _, Eq.trans (World.drewN_drewN _ _ _) (congrArg (World.drewN _) (Nat.add_assoc _ _ _))⟩); have p290 : 0 ≤ ((ji3) : Int) := of_decide_eq_true (by first | (with_reducible assumption) | assumption); have q290 : (ji3) < (l0.length : Int) := of_decide_eq_true (by first | (with_reducible assumption) | assumption); obtain ⟨ad290, e290, hx290_0, hx290_1⟩ := at_T81 HR0.out (ji3) p290 q290; obtain rfl : ad287 = ad290 := (by injection e290); replace p290 := eq_true p290; replace q290 := eq_true q290))
     repeat (go_quiet (first | (go_at_call 91; (with_reducible refine (spec_l1Heads.calls k a1 t289 _ A10.out).mono ?_); rintro e w' ⟨rfl, ⟨nd, rfl⟩⟩; (try first | exact ⟨rfl, _, World.drewN_drewN _ _ _⟩ | exact ⟨rfl, _, Eq.trans (World.drewN_drewN _ _ _) (congrArg (World.drewN _) (Nat.add_assoc _ _ _))⟩); have p290 : 0 ≤ ((ji3) : Int) := of_decide_eq_true (by first | (with_reducible assumption) | assumption); have q290 : (ji3) < (l0.length : Int) := of_decide_eq_true (by first | (with_reducible assumption) | assumption); obtain ⟨ad290, e290, hx290_0, hx290_1⟩ := at_T81 HR0.out (ji3) p290 q290; obtain rfl : ad287 = ad290 := (by injection e290); replace p290 := eq_true p290; replace q290 := eq_true q290)); try go_wp2_with (first | (go_at_call 91; (with_reducible refine (spec_l1Heads.calls k a1 t289 _ A10.out).mono ?_); rintro e w' ⟨rfl, ⟨nd, rfl⟩⟩; (try first | exact ⟨rfl, _, World.drewN_drewN _ _ _⟩ | exact ⟨rfl, _, Eq.trans (World.drewN_drewN _ _ _) (congrArg (World.drewN _) (Nat.add_assoc _ _ _))⟩); have p290 : 0 ≤ ((ji3) : Int) := of_decide_eq_true (by first | (with_reducible assumption) | assumption); have q290 : (ji3) < (l0.length : Int) := of_decide_eq_true (by first | (with_reducible assumption) | assumption); obtain ⟨ad290, e290, hx290_0, hx290_1⟩ := at_T81 HR0.out (ji3) p290 q290; obtain rfl : ad287 = ad290 := (by injection e290); replace p290 := eq_true p290; replace q290 := eq_true q290)))
     go_ret
     exact ⟨by first | rfl | (simp; done) | (simp only [← hji3] <;> (first | rfl | simp)) | (simp [*]; done), by repeat (first | exact Drawn0.refl _ | apply Drawn0.step)⟩
    ·rw [if_neg c9] at H
     have c9b0 : (((rd_T81 l0 (ji3)).f0) == 1) = false := beq_eq_false_iff_ne.mpr c9
     have c9b1 : (((rd_T81 l0 (ji3)).f0) != 1) = true := bne_iff_ne.mpr c9
     by_cases c11 : ((rd_T81 l0 (ji3)).f0) = 2
     ·rw [if_pos c11] at H
      have c11b0 : (((rd_T81 l0 (ji3)).f0) == 2) = true := beq_iff_eq.mpr c11
      have c11b1 : (((rd_T81 l0 (ji3)).f0) != 2) = false := bne_eq_false_iff_eq.mpr c11
      clear c11
      have c12b0 := eq_true (of_decide_eq_true (by first | (with_reducible assumption) | assumption) : 0 ≤ (ji3))
      by_cases c13 : (ji3) ≤ (l0.length : Int)
      ·rw [if_pos c13] at H
       have c13b0 := eq_true c13
       have c13b1 : decide ((ji3) ≤ (l0.length : Int)) = true := decide_eq_true c13
       clear c13
       obtain ⟨y291, hy291⟩ : ∃ y_ : List (S81), y_ = (l0.take ((ji3) : Int).toNat) := ⟨_, rfl⟩
       replace H : ((spec_l3Holds.f k y291 a1).bind fun t295 => (some (!t295))) = some r := by first | (rw [hy291]; with_reducible exact H) | (have H2_ := (Option.bind_some _ _).symm.trans H; rw [hy291]; with_reducible exact H2_) | (have H2_ := (Option.bind_some _ _).symm.trans H; with_reducible exact H2_) | with_reducible exact H | (rw [hy291]; exact H) | exact H
       have Ny291 := Aside0.mk hy291
       clear hy291
       replace H := Option.bind_eq_some_iff.mp H
       obtain ⟨t295, A140, H⟩ := H
       replace H : (some (!t295)) = some r := H
       have A14 := Aside0.mk A140
       clear A140
       obtain rfl := Option.some.inj H
       have p287 : 0 ≤ ((ji3) : Int) := of_decide_eq_true (by first | (with_reducible assumption) | assumption)
       have q287 : (ji3) < (l0.length : Int) := of_decide_eq_true (by first | (with_reducible assumption) | assumption)
       obtain ⟨ad287, e287, hx287_0, hx287_1⟩ := at_T81 HR0.out (ji3) p287 q287
       cases e287
       replace p287 := eq_true p287
       replace q287 := eq_true q287
       have q15 : ((ji3) : Int) ≤ ((l0.length : Int) : Int) := of_decide_eq_true (by first | (with_reducible assumption) | assumption)
       obtain ⟨i015, hi015, _, hsz15, _⟩ := info_parts info81
       have hroom15 : l0.length ≤ c0 := HC0.out
       have hC15 : Kd.C k81 _ (some ad287) l0.length l0 := HR0.out
       have hcut15 := cut_to (P := Try.prog) 56 81 .i64 Try.underlying56 hi015 (some ad287) l0.length c0 (ji3) (of_decide_eq_true (by first | (with_reducible assumption) | assumption)) q15 hroom15
       have hr15 := Kd.C_take (m := ((ji3) : Int).toNat) hC15 (by omega)
       have hy15 : y291.length = ((ji3) : Int).toNat := (by rw [Ny291.out, List.length_take]; omega)
       rw [← Ny291.out] at hr15
       rw [← hy15] at hcut15
       have HR294 := Aside0.mk hr15
       have HC294 := Aside0.mk (show y291.length ≤ c0 from by omega)
       clear hr15 hC15 hroom15 hi015 hsz15
       have KY15 := Aside0.mk hy15
       clear hy15
       replace q15 := eq_true q15
       go_enter Try.func111, Try.ntmps111
       go_wp2_with (first | (go_at_call 111; (with_reducible refine (ih k (by omega) _ _ y291 a1 t295 _ ?side1 ?side2 A14.out).mono ?_); (case side1 => repeat (first | exact HR294.out | (with_reducible refine Kd.C_alloc ?_ _) | (with_reducible refine Kd.C_drewN ?_ _) | (with_reducible refine Kd.C_drew ?_))); (case side2 => exact HC294.out); rintro e w' ⟨rfl, ⟨nd, rfl⟩⟩; (try first | exact ⟨rfl, _, World.drewN_drewN _ _ _⟩ | exact ⟨rfl, _, Eq.trans (World.drewN_drewN _ _ _) (congrArg (World.drewN _) (Nat.add_assoc _ _ _))⟩)))
       repeat (go_quiet (first | (go_at_call 111; (with_reducible refine (ih k (by omega) _ _ y291 a1 t295 _ ?side1 ?side2 A14.out).mono ?_); (case side1 => repeat (first | exact HR294.out | (with_reducible refine Kd.C_alloc ?_ _) | (with_reducible refine Kd.C_drewN ?_ _) | (with_reducible refine Kd.C_drew ?_))); (case side2 => exact HC294.out); rintro e w' ⟨rfl, ⟨nd, rfl⟩⟩; (try first | exact ⟨rfl, _, World.drewN_drewN _ _ _⟩ | exact ⟨rfl, _, Eq.trans (World.drewN_drewN _ _ _) (congrArg (World.drewN _) (Nat.add_assoc _ _ _))⟩))); try go_wp2_with (first | (go_at_call 111; (with_reducible refine (ih k (by omega) _ _ y291 a1 t295 _ ?side1 ?side2 A14.out).mono ?_); (case side1 => repeat (first | exact HR294.out | (with_reducible refine Kd.C_alloc ?_ _) | (with_reducible refine Kd.C_drewN ?_ _) | (with_reducible refine Kd.C_drew ?_))); (case side2 => exact HC294.out); rintro e w' ⟨rfl, ⟨nd, rfl⟩⟩; (try first | exact ⟨rfl, _, World.drewN_drewN _ _ _⟩ | exact ⟨rfl, _, Eq.trans (World.drewN_drewN _ _ _) (congrArg (World.drewN _) (Nat.add_assoc _ _ _))⟩))))
       go_ret
       exact ⟨by first | rfl | (simp; done) | (simp only [← hji3] <;> (first | rfl | simp)) | (simp [*]; done), by repeat (first | exact Drawn0.refl _ | apply Drawn0.step)⟩
      ·rw [if_neg c13] at H
       exact absurd H (by simp)
     ·rw [if_neg c11] at H
      have c11b0 : (((rd_T81 l0 (ji3)).f0) == 2) = false := beq_eq_false_iff_ne.mpr c11
      have c11b1 : (((rd_T81 l0 (ji3)).f0) != 2) = true := bne_iff_ne.mpr c11
      replace H := Option.bind_eq_some_iff.mp H
      obtain ⟨t296, A160, H⟩ := H
      replace H : (if 0 ≤ t296 then (if t296 ≤ (l0.length : Int) then ((spec_l3Holds.f k (l0.take (t296 : Int).toNat) a1).bind fun t301 => (if t296 ≤ (ji3) then (if (ji3) ≤ (l0.length : Int) then ((spec_l3Holds.f k ((l0.take ((ji3) : Int).toNat).drop (t296 : Int).toNat) a1).bind fun t306 => (if ((rd_T81 l0 (ji3)).f0) = 3 then (if t301 = true then (some t306) else (some false)) else (if ((rd_T81 l0 (ji3)).f0) = 4 then (if t301 = true then (some true) else (some t306)) else (some (t301 == t306))))) else (none)) else (none))) else (none)) else (none)) = some r := H
      have A16 := Aside0.mk A160
      clear A160
      by_cases c17 : 0 ≤ t296
      ·rw [if_pos c17] at H
       have c17b0 := eq_true c17
       have c17b1 : decide (0 ≤ t296) = true := decide_eq_true c17
       clear c17
       by_cases c18 : t296 ≤ (l0.length : Int)
       ·rw [if_pos c18] at H
        have c18b0 := eq_true c18
        have c18b1 : decide (t296 ≤ (l0.length : Int)) = true := decide_eq_true c18
        clear c18
        obtain ⟨y297, hy297⟩ : ∃ y_ : List (S81), y_ = (l0.take (t296 : Int).toNat) := ⟨_, rfl⟩
        replace H : ((spec_l3Holds.f k y297 a1).bind fun t301 => (if t296 ≤ (ji3) then (if (ji3) ≤ (l0.length : Int) then ((spec_l3Holds.f k ((l0.take ((ji3) : Int).toNat).drop (t296 : Int).toNat) a1).bind fun t306 => (if ((rd_T81 l0 (ji3)).f0) = 3 then (if t301 = true then (some t306) else (some false)) else (if ((rd_T81 l0 (ji3)).f0) = 4 then (if t301 = true then (some true) else (some t306)) else (some (t301 == t306))))) else (none)) else (none))) = some r := by first | (rw [hy297]; with_reducible exact H) | (have H2_ := (Option.bind_some _ _).symm.trans H; rw [hy297]; with_reducible exact H2_) | (have H2_ := (Option.bind_some _ _).symm.trans H; with_reducible exact H2_) | with_reducible exact H | (rw [hy297]; exact H) | exact H
        have Ny297 := Aside0.mk hy297
        clear hy297
        replace H := Option.bind_eq_some_iff.mp H
        obtain ⟨t301, A190, H⟩ := H
        replace H : (if t296 ≤ (ji3) then (if (ji3) ≤ (l0.length : Int) then ((spec_l3Holds.f k ((l0.take ((ji3) : Int).toNat).drop (t296 : Int).toNat) a1).bind fun t306 => (if ((rd_T81 l0 (ji3)).f0) = 3 then (if t301 = true then (some t306) else (some false)) else (if ((rd_T81 l0 (ji3)).f0) = 4 then (if t301 = true then (some true) else (some t306)) else (some (t301 == t306))))) else (none)) else (none)) = some r := H
        have A19 := Aside0.mk A190
        clear A190
        have c20b0 := eq_true (of_decide_eq_true (by first | (with_reducible assumption) | assumption) : 0 ≤ t296)
        by_cases c21 : t296 ≤ (ji3)
        ·rw [if_pos c21] at H
         have c21b0 := eq_true c21
         have c21b1 : decide (t296 ≤ (ji3)) = true := decide_eq_true c21
         clear c21
         by_cases c22 : (ji3) ≤ (l0.length : Int)
         ·rw [if_pos c22] at H
          have c22b0 := eq_true c22
          have c22b1 : decide ((ji3) ≤ (l0.length : Int)) = true := decide_eq_true c22
          clear c22
          obtain ⟨y302, hy302⟩ : ∃ y_ : List (S81), y_ = ((l0.take ((ji3) : Int).toNat).drop (t296 : Int).toNat) := ⟨_, rfl⟩
          replace H : ((spec_l3Holds.f k y302 a1).bind fun t306 => (if ((rd_T81 l0 (ji3)).f0) = 3 then (if t301 = true then (some t306) else (some false)) else (if ((rd_T81 l0 (ji3)).f0) = 4 then (if t301 = true then (some true) else (some t306)) else (some (t301 == t306))))) = some r := by first | (rw [hy302]; with_reducible exact H) | (have H2_ := (Option.bind_some _ _).symm.trans H; rw [hy302]; with_reducible exact H2_) | (have H2_ := (Option.bind_some _ _).symm.trans H; with_reducible exact H2_) | with_reducible exact H | (rw [hy302]; exact H) | exact H
          have Ny302 := Aside0.mk hy302
          clear hy302
          replace H := Option.bind_eq_some_iff.mp H
          obtain ⟨t306, A230, H⟩ := H
          replace H : (if ((rd_T81 l0 (ji3)).f0) = 3 then (if t301 = true then (some t306) else (some false)) else (if ((rd_T81 l0 (ji3)).f0) = 4 then (if t301 = true then (some true) else (some t306)) else (some (t301 == t306)))) = some r := H
          have A23 := Aside0.mk A230
          clear A230
          by_cases c24 : ((rd_T81 l0 (ji3)).f0) = 3
          ·rw [if_pos c24] at H
           have c24b0 : (((rd_T81 l0 (ji3)).f0) == 3) = true := beq_iff_eq.mpr c24
           have c24b1 : (((rd_T81 l0 (ji3)).f0) != 3) = false := bne_eq_false_iff_eq.mpr c24
           clear c24
           by_cases c25 : t301 = true
           ·subst c25
            have H1 : (some t306) = some r := by rw [if_pos rfl] at H; exact H
            clear H
            have H := H1
            clear H1
            obtain rfl := Option.some.inj H
            have p287 : 0 ≤ ((ji3) : Int) := of_decide_eq_true (by first | (with_reducible assumption) | assumption)
            have q287 : (ji3) < (l0.length : Int) := of_decide_eq_true (by first | (with_reducible assumption) | assumption)
            obtain ⟨ad287, e287, hx287_0, hx287_1⟩ := at_T81 HR0.out (ji3) p287 q287
            cases e287
            replace p287 := eq_true p287
            replace q287 := eq_true q287
            go_enter Try.func111, Try.ntmps111
            go_wp2_with (first | (go_at_call 121; (with_reducible refine (spec_l2Starts.calls k _ _ l0 (wrap64 ((ji3) - 1)) t296 _ ?side1 ?side2 A16.out).mono ?_); (case side1 => repeat (first | exact HR0.out | (with_reducible refine Kd.C_alloc ?_ _) | (with_reducible refine Kd.C_drewN ?_ _) | (with_reducible refine Kd.C_drew ?_))); (case side2 => exact HC0.out); rintro e w' ⟨rfl, ⟨nd, rfl⟩⟩; (try first | exact ⟨rfl, _, World.drewN_drewN _ _ _⟩ | exact ⟨rfl, _, Eq.trans (World.drewN_drewN _ _ _) (congrArg (World.drewN _) (Nat.add_assoc _ _ _))⟩); have q26 : (t296 : Int) ≤ ((l0.length : Int) : Int) := of_decide_eq_true (by first | (with_reducible assumption) | assumption); obtain ⟨i026, hi026, _, hsz26, _⟩ := info_parts info81; have hroom26 : l0.length ≤ c0 := HC0.out; have hC26 : Kd.C k81 _ (some ad287) l0.length l0 := HR0.out; have hcut26 := cut_to (P := Try.prog) 56 81 .i64 Try.underlying56 hi026 (some ad287) l0.length c0 t296 (of_decide_eq_true (by first | (with_reducible assumption) | assumption)) q26 hroom26; have hr26 := Kd.C_take (m := (t296 : Int).toNat) hC26 (by omega); have hy26 : y297.length = (t296 : Int).toNat := (by rw [Ny297.out, List.length_take]; omega); rw [← Ny297.out] at hr26; rw [← hy26] at hcut26; have HR300 := Aside0.mk hr26; have HC300 := Aside0.mk (show y297.length ≤ c0 from by omega); clear hr26 hC26 hroom26 hi026 hsz26; have KY26 := Aside0.mk hy26; clear hy26; replace q26 := eq_true q26) | (go_at_call 111; (with_reducible refine (ih k (by omega) _ _ y297 a1 true _ ?side1 ?side2 A19.out).mono ?_); (case side1 => repeat (first | exact HR300.out | (with_reducible refine Kd.C_alloc ?_ _) | (with_reducible refine Kd.C_drewN ?_ _) | (with_reducible refine Kd.C_drew ?_))); (case side2 => exact HC300.out); rintro e w' ⟨rfl, ⟨nd, rfl⟩⟩; (try first | exact ⟨rfl, _, World.drewN_drewN _ _ _⟩ | exact ⟨rfl, _, Eq.trans (World.drewN_drewN _ _ _) (congrArg (World.drewN _) (Nat.add_assoc _ _ _))⟩); have q27 : ((ji3) : Int) ≤ ((l0.length : Int) : Int) := of_decide_eq_true (by first | (with_reducible assumption) | assumption); obtain ⟨i027, hi027, _, hsz27, _⟩ := info_parts info81; have hroom27 : l0.length ≤ c0 := HC0.out; have hC27 : Kd.C k81 _ (some ad287) l0.length l0 := HR0.out; have ql27 : (t296 : Int) ≤ ((ji3) : Int) := of_decide_eq_true (by first | (with_reducible assumption) | assumption); have q027 : (0 : Int) ≤ (t296 : Int) := of_decide_eq_true (by first | (with_reducible assumption) | assumption); have hcut27 := cut_mid (P := Try.prog) 56 81 .i64 .i64 Try.underlying56 hi027 2 hsz27 (some ad287) l0.length c0 t296 (ji3) q027 ql27 q27 hroom27; have hr27 := Kd.C_mid (lo := (t296 : Int).toNat) (hi := ((ji3) : Int).toNat) (c := c0) hC27 (by omega) (by omega) hroom27; obtain ⟨A27, hA27⟩ : ∃ A1, A1 = (if c0 = (t296 : Int).toNat then (some ad287) else ((some ad287) : Option Addr).map (·.add ((t296 : Int).toNat * 2))) := ⟨_, rfl⟩; obtain ⟨c27, hc27⟩ : ∃ c1, c1 = c0 - (t296 : Int).toNat := ⟨_, rfl⟩; have hy27 : y302.length = ((ji3) : Int).toNat - (t296 : Int).toNat := (by rw [Ny302.out, List.length_drop, List.length_take] <;> omega); rw [show ((l0).take ((ji3) : Int).toNat).drop (t296 : Int).toNat = y302 from Ny302.out.symm] at hr27; replace hr27 : Kd.C k81 _ A27 y302.length y302 := (by rw [hA27]; exact hr27); rw [← hy27, ← hA27, ← hc27] at hcut27; have HR305 := Aside0.mk hr27; have HC305 := Aside0.mk (show y302.length ≤ c27 from by rw [hy27, hc27]; exact Nat.sub_le_sub_right (Nat.le_trans (by omega) hroom27) _); clear hr27 hC27 hroom27 hi027 hsz27 hc27; have KY27 := Aside0.mk hy27; have KA27 := Aside0.mk hA27; clear hy27 hA27; replace q27 := eq_true q27) | (go_at_call 111; (with_reducible refine (ih k (by omega) _ _ y302 a1 t306 _ ?side1 ?side2 A23.out).mono ?_); (case side1 => repeat (first | exact HR305.out | (with_reducible refine Kd.C_alloc ?_ _) | (with_reducible refine Kd.C_drewN ?_ _) | (with_reducible refine Kd.C_drew ?_))); (case side2 => exact HC305.out); rintro e w' ⟨rfl, ⟨nd, rfl⟩⟩; (try first | exact ⟨rfl, _, World.drewN_drewN _ _ _⟩ | exact ⟨rfl, _, Eq.trans (World.drewN_drewN _ _ _) (congrArg (World.drewN _) (Nat.add_assoc _ _ _))⟩); have p307 : 0 ≤ ((ji3) : Int) := of_decide_eq_true (by first | (with_reducible assumption) | assumption); have q307 : (ji3) < (l0.length : Int) := of_decide_eq_true (by first | (with_reducible assumption) | assumption); obtain ⟨ad307, e307, hx307_0, hx307_1⟩ := at_T81 HR0.out (ji3) p307 q307; obtain rfl : ad287 = ad307 := (by injection e307); replace p307 := eq_true p307; replace q307 := eq_true q307))
            repeat (go_quiet (first | (go_at_call 121; (with_reducible refine (spec_l2Starts.calls k _ _ l0 (wrap64 ((ji3) - 1)) t296 _ ?side1 ?side2 A16.out).mono ?_); (case side1 => repeat (first | exact HR0.out | (with_reducible refine Kd.C_alloc ?_ _) | (with_reducible refine Kd.C_drewN ?_ _) | (with_reducible refine Kd.C_drew ?_))); (case side2 => exact HC0.out); rintro e w' ⟨rfl, ⟨nd, rfl⟩⟩; (try first | exact ⟨rfl, _, World.drewN_drewN _ _ _⟩ | exact ⟨rfl, _, Eq.trans (World.drewN_drewN _ _ _) (congrArg (World.drewN _) (Nat.add_assoc _ _ _))⟩); have q26 : (t296 : Int) ≤ ((l0.length : Int) : Int) := of_decide_eq_true (by first | (with_reducible assumption) | assumption); obtain ⟨i026, hi026, _, hsz26, _⟩ := info_parts info81; have hroom26 : l0.length ≤ c0 := HC0.out; have hC26 : Kd.C k81 _ (some ad287) l0.length l0 := HR0.out; have hcut26 := cut_to (P := Try.prog) 56 81 .i64 Try.underlying56 hi026 (some ad287) l0.length c0 t296 (of_decide_eq_true (by first | (with_reducible assumption) | assumption)) q26 hroom26; have hr26 := Kd.C_take (m := (t296 : Int).toNat) hC26 (by omega); have hy26 : y297.length = (t296 : Int).toNat := (by rw [Ny297.out, List.length_take]; omega); rw [← Ny297.out] at hr26; rw [← hy26] at hcut26; have HR300 := Aside0.mk hr26; have HC300 := Aside0.mk (show y297.length ≤ c0 from by omega); clear hr26 hC26 hroom26 hi026 hsz26; have KY26 := Aside0.mk hy26; clear hy26; replace q26 := eq_true q26) | (go_at_call 111; (with_reducible refine (ih k (by omega) _ _ y297 a1 true _ ?side1 ?side2 A19.out).mono ?_); (case side1 => repeat (first | exact HR300.out | (with_reducible refine Kd.C_alloc ?_ _) | (with_reducible refine Kd.C_drewN ?_ _) | (with_reducible refine Kd.C_drew ?_))); (case side2 => exact HC300.out); rintro e w' ⟨rfl, ⟨nd, rfl⟩⟩; (try first | exact ⟨rfl, _, World.drewN_drewN _ _ _⟩ | exact ⟨rfl, _, Eq.trans (World.drewN_drewN _ _ _) (congrArg (World.drewN _) (Nat.add_assoc _ _ _))⟩); have q27 : ((ji3) : Int) ≤ ((l0.length : Int) : Int) := of_decide_eq_true (by first | (with_reducible assumption) | assumption); obtain ⟨i027, hi027, _, hsz27, _⟩ := info_parts info81; have hroom27 : l0.length ≤ c0 := HC0.out; have hC27 : Kd.C k81 _ (some ad287) l0.length l0 := HR0.out; have ql27 : (t296 : Int) ≤ ((ji3) : Int) := of_decide_eq_true (by first | (with_reducible assumption) | assumption); have q027 : (0 : Int) ≤ (t296 : Int) := of_decide_eq_true (by first | (with_reducible assumption) | assumption); have hcut27 := cut_mid (P := Try.prog) 56 81 .i64 .i64 Try.underlying56 hi027 2 hsz27 (some ad287) l0.length c0 t296 (ji3) q027 ql27 q27 hroom27; have hr27 := Kd.C_mid (lo := (t296 : Int).toNat) (hi := ((ji3) : Int).toNat) (c := c0) hC27 (by omega) (by omega) hroom27; obtain ⟨A27, hA27⟩ : ∃ A1, A1 = (if c0 = (t296 : Int).toNat then (some ad287) else ((some ad287) : Option Addr).map (·.add ((t296 : Int).toNat * 2))) := ⟨_, rfl⟩; obtain ⟨c27, hc27⟩ : ∃ c1, c1 = c0 - (t296 : Int).toNat := ⟨_, rfl⟩; have hy27 : y302.length = ((ji3) : Int).toNat - (t296 : Int).toNat := (by rw [Ny302.out, List.length_drop, List.length_take] <;> omega); rw [show ((l0).take ((ji3) : Int).toNat).drop (t296 : Int).toNat = y302 from Ny302.out.symm] at hr27; replace hr27 : Kd.C k81 _ A27 y302.length y302 := (by rw [hA27]; exact hr27); rw [← hy27, ← hA27, ← hc27] at hcut27; have HR305 := Aside0.mk hr27; have HC305 := Aside0.mk (show y302.length ≤ c27 from by rw [hy27, hc27]; exact Nat.sub_le_sub_right (Nat.le_trans (by omega) hroom27) _); clear hr27 hC27 hroom27 hi027 hsz27 hc27; have KY27 := Aside0.mk hy27; have KA27 := Aside0.mk hA27; clear hy27 hA27; replace q27 := eq_true q27) | (go_at_call 111; (with_reducible refine (ih k (by omega) _ _ y302 a1 t306 _ ?side1 ?side2 A23.out).mono ?_); (case side1 => repeat (first | exact HR305.out | (with_reducible refine Kd.C_alloc ?_ _) | (with_reducible refine Kd.C_drewN ?_ _) | (with_reducible refine Kd.C_drew ?_))); (case side2 => exact HC305.out); rintro e w' ⟨rfl, ⟨nd, rfl⟩⟩; (try first | exact ⟨rfl, _, World.drewN_drewN _ _ _⟩ | exact ⟨rfl, _, Eq.trans (World.drewN_drewN _ _ _) (congrArg (World.drewN _) (Nat.add_assoc _ _ _))⟩); have p307 : 0 ≤ ((ji3) : Int) := of_decide_eq_true (by first | (with_reducible assumption) | assumption); have q307 : (ji3) < (l0.length : Int) := of_decide_eq_true (by first | (with_reducible assumption) | assumption); obtain ⟨ad307, e307, hx307_0, hx307_1⟩ := at_T81 HR0.out (ji3) p307 q307; obtain rfl : ad287 = ad307 := (by injection e307); replace p307 := eq_true p307; replace q307 := eq_true q307)); try go_wp2_with (first | (go_at_call 121; (with_reducible refine (spec_l2Starts.calls k _ _ l0 (wrap64 ((ji3) - 1)) t296 _ ?side1 ?side2 A16.out).mono ?_); (case side1 => repeat (first | exact HR0.out | (with_reducible refine Kd.C_alloc ?_ _) | (with_reducible refine Kd.C_drewN ?_ _) | (with_reducible refine Kd.C_drew ?_))); (case side2 => exact HC0.out); rintro e w' ⟨rfl, ⟨nd, rfl⟩⟩; (try first | exact ⟨rfl, _, World.drewN_drewN _ _ _⟩ | exact ⟨rfl, _, Eq.trans (World.drewN_drewN _ _ _) (congrArg (World.drewN _) (Nat.add_assoc _ _ _))⟩); have q26 : (t296 : Int) ≤ ((l0.length : Int) : Int) := of_decide_eq_true (by first | (with_reducible assumption) | assumption); obtain ⟨i026, hi026, _, hsz26, _⟩ := info_parts info81; have hroom26 : l0.length ≤ c0 := HC0.out; have hC26 : Kd.C k81 _ (some ad287) l0.length l0 := HR0.out; have hcut26 := cut_to (P := Try.prog) 56 81 .i64 Try.underlying56 hi026 (some ad287) l0.length c0 t296 (of_decide_eq_true (by first | (with_reducible assumption) | assumption)) q26 hroom26; have hr26 := Kd.C_take (m := (t296 : Int).toNat) hC26 (by omega); have hy26 : y297.length = (t296 : Int).toNat := (by rw [Ny297.out, List.length_take]; omega); rw [← Ny297.out] at hr26; rw [← hy26] at hcut26; have HR300 := Aside0.mk hr26; have HC300 := Aside0.mk (show y297.length ≤ c0 from by omega); clear hr26 hC26 hroom26 hi026 hsz26; have KY26 := Aside0.mk hy26; clear hy26; replace q26 := eq_true q26) | (go_at_call 111; (with_reducible refine (ih k (by omega) _ _ y297 a1 true _ ?side1 ?side2 A19.out).mono ?_); (case side1 => repeat (first | exact HR300.out | (with_reducible refine Kd.C_alloc ?_ _) | (with_reducible refine Kd.C_drewN ?_ _) | (with_reducible refine Kd.C_drew ?_))); (case side2 => exact HC300.out); rintro e w' ⟨rfl, ⟨nd, rfl⟩⟩; (try first | exact ⟨rfl, _, World.drewN_drewN _ _ _⟩ | exact ⟨rfl, _, Eq.trans (World.drewN_drewN _ _ _) (congrArg (World.drewN _) (Nat.add_assoc _ _ _))⟩); have q27 : ((ji3) : Int) ≤ ((l0.length : Int) : Int) := of_decide_eq_true (by first | (with_reducible assumption) | assumption); obtain ⟨i027, hi027, _, hsz27, _⟩ := info_parts info81; have hroom27 : l0.length ≤ c0 := HC0.out; have hC27 : Kd.C k81 _ (some ad287) l0.length l0 := HR0.out; have ql27 : (t296 : Int) ≤ ((ji3) : Int) := of_decide_eq_true (by first | (with_reducible assumption) | assumption); have q027 : (0 : Int) ≤ (t296 : Int) := of_decide_eq_true (by first | (with_reducible assumption) | assumption); have hcut27 := cut_mid (P := Try.prog) 56 81 .i64 .i64 Try.underlying56 hi027 2 hsz27 (some ad287) l0.length c0 t296 (ji3) q027 ql27 q27 hroom27; have hr27 := Kd.C_mid (lo := (t296 : Int).toNat) (hi := ((ji3) : Int).toNat) (c := c0) hC27 (by omega) (by omega) hroom27; obtain ⟨A27, hA27⟩ : ∃ A1, A1 = (if c0 = (t296 : Int).toNat then (some ad287) else ((some ad287) : Option Addr).map (·.add ((t296 : Int).toNat * 2))) := ⟨_, rfl⟩; obtain ⟨c27, hc27⟩ : ∃ c1, c1 = c0 - (t296 : Int).toNat := ⟨_, rfl⟩; have hy27 : y302.length = ((ji3) : Int).toNat - (t296 : Int).toNat := (by rw [Ny302.out, List.length_drop, List.length_take] <;> omega); rw [show ((l0).take ((ji3) : Int).toNat).drop (t296 : Int).toNat = y302 from Ny302.out.symm] at hr27; replace hr27 : Kd.C k81 _ A27 y302.length y302 := (by rw [hA27]; exact hr27); rw [← hy27, ← hA27, ← hc27] at hcut27; have HR305 := Aside0.mk hr27; have HC305 := Aside0.mk (show y302.length ≤ c27 from by rw [hy27, hc27]; exact Nat.sub_le_sub_right (Nat.le_trans (by omega) hroom27) _); clear hr27 hC27 hroom27 hi027 hsz27 hc27; have KY27 := Aside0.mk hy27; have KA27 := Aside0.mk hA27; clear hy27 hA27; replace q27 := eq_true q27) | (go_at_call 111; (with_reducible refine (ih k (by omega) _ _ y302 a1 t306 _ ?side1 ?side2 A23.out).mono ?_); (case side1 => repeat (first | exact HR305.out | (with_reducible refine Kd.C_alloc ?_ _) | (with_reducible refine Kd.C_drewN ?_ _) | (with_reducible refine Kd.C_drew ?_))); (case side2 => exact HC305.out); rintro e w' ⟨rfl, ⟨nd, rfl⟩⟩; (try first | exact ⟨rfl, _, World.drewN_drewN _ _ _⟩ | exact ⟨rfl, _, Eq.trans (World.drewN_drewN _ _ _) (congrArg (World.drewN _) (Nat.add_assoc _ _ _))⟩); have p307 : 0 ≤ ((ji3) : Int) := of_decide_eq_true (by first | (with_reducible assumption) | assumption); have q307 : (ji3) < (l0.length : Int) := of_decide_eq_true (by first | (with_reducible assumption) | assumption); obtain ⟨ad307, e307, hx307_0, hx307_1⟩ := at_T81 HR0.out (ji3) p307 q307; obtain rfl : ad287 = ad307 := (by injection e307); replace p307 := eq_true p307; replace q307 := eq_true q307)))
            go_ret
            exact ⟨by first | rfl | (simp; done) | (simp only [← hji3] <;> (first | rfl | simp)) | (simp [*]; done), by repeat (first | exact Drawn0.refl _ | apply Drawn0.step)⟩
           ·replace c25 := Bool.eq_false_iff.mpr c25
            subst c25
            have H1 : (some false) = some r := by rw [if_neg (show ¬ (false = true) by decide)] at H; exact H
            clear H
            have H := H1
            clear H1
            obtain rfl := Option.some.inj H
            have p287 : 0 ≤ ((ji3) : Int) := of_decide_eq_true (by first | (with_reducible assumption) | assumption)
            have q287 : (ji3) < (l0.length : Int) := of_decide_eq_true (by first | (with_reducible assumption) | assumption)
            obtain ⟨ad287, e287, hx287_0, hx287_1⟩ := at_T81 HR0.out (ji3) p287 q287
            cases e287
            replace p287 := eq_true p287
            replace q287 := eq_true q287
            go_enter Try.func111, Try.ntmps111
            go_wp2_with (first | (go_at_call 121; (with_reducible refine (spec_l2Starts.calls k _ _ l0 (wrap64 ((ji3) - 1)) t296 _ ?side1 ?side2 A16.out).mono ?_); (case side1 => repeat (first | exact HR0.out | (with_reducible refine Kd.C_alloc ?_ _) | (with_reducible refine Kd.C_drewN ?_ _) | (with_reducible refine Kd.C_drew ?_))); (case side2 => exact HC0.out); rintro e w' ⟨rfl, ⟨nd, rfl⟩⟩; (try first | exact ⟨rfl, _, World.drewN_drewN _ _ _⟩ | exact ⟨rfl, _, Eq.trans (World.drewN_drewN _ _ _) (congrArg (World.drewN _) (Nat.add_assoc _ _ _))⟩); have q28 : (t296 : Int) ≤ ((l0.length : Int) : Int) := of_decide_eq_true (by first | (with_reducible assumption) | assumption); obtain ⟨i028, hi028, _, hsz28, _⟩ := info_parts info81; have hroom28 : l0.length ≤ c0 := HC0.out; have hC28 : Kd.C k81 _ (some ad287) l0.length l0 := HR0.out; have hcut28 := cut_to (P := Try.prog) 56 81 .i64 Try.underlying56 hi028 (some ad287) l0.length c0 t296 (of_decide_eq_true (by first | (with_reducible assumption) | assumption)) q28 hroom28; have hr28 := Kd.C_take (m := (t296 : Int).toNat) hC28 (by omega); have hy28 : y297.length = (t296 : Int).toNat := (by rw [Ny297.out, List.length_take]; omega); rw [← Ny297.out] at hr28; rw [← hy28] at hcut28; have HR300 := Aside0.mk hr28; have HC300 := Aside0.mk (show y297.length ≤ c0 from by omega); clear hr28 hC28 hroom28 hi028 hsz28; have KY28 := Aside0.mk hy28; clear hy28; replace q28 := eq_true q28) | (go_at_call 111; (with_reducible refine (ih k (by omega) _ _ y297 a1 false _ ?side1 ?side2 A19.out).mono ?_); (case side1 => repeat (first | exact HR300.out | (with_reducible refine Kd.C_alloc ?_ _) | (with_reducible refine Kd.C_drewN ?_ _) | (with_reducible refine Kd.C_drew ?_))); (case side2 => exact HC300.out); rintro e w' ⟨rfl, ⟨nd, rfl⟩⟩; (try first | exact ⟨rfl, _, World.drewN_drewN _ _ _⟩ | exact ⟨rfl, _, Eq.trans (World.drewN_drewN _ _ _) (congrArg (World.drewN _) (Nat.add_assoc _ _ _))⟩); have q29 : ((ji3) : Int) ≤ ((l0.length : Int) : Int) := of_decide_eq_true (by first | (with_reducible assumption) | assumption); obtain ⟨i029, hi029, _, hsz29, _⟩ := info_parts info81; have hroom29 : l0.length ≤ c0 := HC0.out; have hC29 : Kd.C k81 _ (some ad287) l0.length l0 := HR0.out; have ql29 : (t296 : Int) ≤ ((ji3) : Int) := of_decide_eq_true (by first | (with_reducible assumption) | assumption); have q029 : (0 : Int) ≤ (t296 : Int) := of_decide_eq_true (by first | (with_reducible assumption) | assumption); have hcut29 := cut_mid (P := Try.prog) 56 81 .i64 .i64 Try.underlying56 hi029 2 hsz29 (some ad287) l0.length c0 t296 (ji3) q029 ql29 q29 hroom29; have hr29 := Kd.C_mid (lo := (t296 : Int).toNat) (hi := ((ji3) : Int).toNat) (c := c0) hC29 (by omega) (by omega) hroom29; obtain ⟨A29, hA29⟩ : ∃ A1, A1 = (if c0 = (t296 : Int).toNat then (some ad287) else ((some ad287) : Option Addr).map (·.add ((t296 : Int).toNat * 2))) := ⟨_, rfl⟩; obtain ⟨c29, hc29⟩ : ∃ c1, c1 = c0 - (t296 : Int).toNat := ⟨_, rfl⟩; have hy29 : y302.length = ((ji3) : Int).toNat - (t296 : Int).toNat := (by rw [Ny302.out, List.length_drop, List.length_take] <;> omega); rw [show ((l0).take ((ji3) : Int).toNat).drop (t296 : Int).toNat = y302 from Ny302.out.symm] at hr29; replace hr29 : Kd.C k81 _ A29 y302.length y302 := (by rw [hA29]; exact hr29); rw [← hy29, ← hA29, ← hc29] at hcut29; have HR305 := Aside0.mk hr29; have HC305 := Aside0.mk (show y302.length ≤ c29 from by rw [hy29, hc29]; exact Nat.sub_le_sub_right (Nat.le_trans (by omega) hroom29) _); clear hr29 hC29 hroom29 hi029 hsz29 hc29; have KY29 := Aside0.mk hy29; have KA29 := Aside0.mk hA29; clear hy29 hA29; replace q29 := eq_true q29) | (go_at_call 111; (with_reducible refine (ih k (by omega) _ _ y302 a1 t306 _ ?side1 ?side2 A23.out).mono ?_); (case side1 => repeat (first | exact HR305.out | (with_reducible refine Kd.C_alloc ?_ _) | (with_reducible refine Kd.C_drewN ?_ _) | (with_reducible refine Kd.C_drew ?_))); (case side2 => exact HC305.out); rintro e w' ⟨rfl, ⟨nd, rfl⟩⟩; (try first | exact ⟨rfl, _, World.drewN_drewN _ _ _⟩ | exact ⟨rfl, _, Eq.trans (World.drewN_drewN _ _ _) (congrArg (World.drewN _) (Nat.add_assoc _ _ _))⟩); have p307 : 0 ≤ ((ji3) : Int) := of_decide_eq_true (by first | (with_reducible assumption) | assumption); have q307 : (ji3) < (l0.length : Int) := of_decide_eq_true (by first | (with_reducible assumption) | assumption); obtain ⟨ad307, e307, hx307_0, hx307_1⟩ := at_T81 HR0.out (ji3) p307 q307; obtain rfl : ad287 = ad307 := (by injection e307); replace p307 := eq_true p307; replace q307 := eq_true q307))
            repeat (go_quiet (first | (go_at_call 121; (with_reducible refine (spec_l2Starts.calls k _ _ l0 (wrap64 ((ji3) - 1)) t296 _ ?side1 ?side2 A16.out).mono ?_); (case side1 => repeat (first | exact HR0.out | (with_reducible refine Kd.C_alloc ?_ _) | (with_reducible refine Kd.C_drewN ?_ _) | (with_reducible refine Kd.C_drew ?_))); (case side2 => exact HC0.out); rintro e w' ⟨rfl, ⟨nd, rfl⟩⟩; (try first | exact ⟨rfl, _, World.drewN_drewN _ _ _⟩ | exact ⟨rfl, _, Eq.trans (World.drewN_drewN _ _ _) (congrArg (World.drewN _) (Nat.add_assoc _ _ _))⟩); have q28 : (t296 : Int) ≤ ((l0.length : Int) : Int) := of_decide_eq_true (by first | (with_reducible assumption) | assumption); obtain ⟨i028, hi028, _, hsz28, _⟩ := info_parts info81; have hroom28 : l0.length ≤ c0 := HC0.out; have hC28 : Kd.C k81 _ (some ad287) l0.length l0 := HR0.out; have hcut28 := cut_to (P := Try.prog) 56 81 .i64 Try.underlying56 hi028 (some ad287) l0.length c0 t296 (of_decide_eq_true (by first | (with_reducible assumption) | assumption)) q28 hroom28; have hr28 := Kd.C_take (m := (t296 : Int).toNat) hC28 (by omega); have hy28 : y297.length = (t296 : Int).toNat := (by rw [Ny297.out, List.length_take]; omega); rw [← Ny297.out] at hr28; rw [← hy28] at hcut28; have HR300 := Aside0.mk hr28; have HC300 := Aside0.mk (show y297.length ≤ c0 from by omega); clear hr28 hC28 hroom28 hi028 hsz28; have KY28 := Aside0.mk hy28; clear hy28; replace q28 := eq_true q28) | (go_at_call 111; (with_reducible refine (ih k (by omega) _ _ y297 a1 false _ ?side1 ?side2 A19.out).mono ?_); (case side1 => repeat (first | exact HR300.out | (with_reducible refine Kd.C_alloc ?_ _) | (with_reducible refine Kd.C_drewN ?_ _) | (with_reducible refine Kd.C_drew ?_))); (case side2 => exact HC300.out); rintro e w' ⟨rfl, ⟨nd, rfl⟩⟩; (try first | exact ⟨rfl, _, World.drewN_drewN _ _ _⟩ | exact ⟨rfl, _, Eq.trans (World.drewN_drewN _ _ _) (congrArg (World.drewN _) (Nat.add_assoc _ _ _))⟩); have q29 : ((ji3) : Int) ≤ ((l0.length : Int) : Int) := of_decide_eq_true (by first | (with_reducible assumption) | assumption); obtain ⟨i029, hi029, _, hsz29, _⟩ := info_parts info81; have hroom29 : l0.length ≤ c0 := HC0.out; have hC29 : Kd.C k81 _ (some ad287) l0.length l0 := HR0.out; have ql29 : (t296 : Int) ≤ ((ji3) : Int) := of_decide_eq_true (by first | (with_reducible assumption) | assumption); have q029 : (0 : Int) ≤ (t296 : Int) := of_decide_eq_true (by first | (with_reducible assumption) | assumption); have hcut29 := cut_mid (P := Try.prog) 56 81 .i64 .i64 Try.underlying56 hi029 2 hsz29 (some ad287) l0.length c0 t296 (ji3) q029 ql29 q29 hroom29; have hr29 := Kd.C_mid (lo := (t296 : Int).toNat) (hi := ((ji3) : Int).toNat) (c := c0) hC29 (by omega) (by omega) hroom29; obtain ⟨A29, hA29⟩ : ∃ A1, A1 = (if c0 = (t296 : Int).toNat then (some ad287) else ((some ad287) : Option Addr).map (·.add ((t296 : Int).toNat * 2))) := ⟨_, rfl⟩; obtain ⟨c29, hc29⟩ : ∃ c1, c1 = c0 - (t296 : Int).toNat := ⟨_, rfl⟩; have hy29 : y302.length = ((ji3) : Int).toNat - (t296 : Int).toNat := (by rw [Ny302.out, List.length_drop, List.length_take] <;> omega); rw [show ((l0).take ((ji3) : Int).toNat).drop (t296 : Int).toNat = y302 from Ny302.out.symm] at hr29; replace hr29 : Kd.C k81 _ A29 y302.length y302 := (by rw [hA29]; exact hr29); rw [← hy29, ← hA29, ← hc29] at hcut29; have HR305 := Aside0.mk hr29; have HC305 := Aside0.mk (show y302.length ≤ c29 from by rw [hy29, hc29]; exact Nat.sub_le_sub_right (Nat.le_trans (by omega) hroom29) _); clear hr29 hC29 hroom29 hi029 hsz29 hc29; have KY29 := Aside0.mk hy29; have KA29 := Aside0.mk hA29; clear hy29 hA29; replace q29 := eq_true q29) | (go_at_call 111; (with_reducible refine (ih k (by omega) _ _ y302 a1 t306 _ ?side1 ?side2 A23.out).mono ?_); (case side1 => repeat (first | exact HR305.out | (with_reducible refine Kd.C_alloc ?_ _) | (with_reducible refine Kd.C_drewN ?_ _) | (with_reducible refine Kd.C_drew ?_))); (case side2 => exact HC305.out); rintro e w' ⟨rfl, ⟨nd, rfl⟩⟩; (try first | exact ⟨rfl, _, World.drewN_drewN _ _ _⟩ | exact ⟨rfl, _, Eq.trans (World.drewN_drewN _ _ _) (congrArg (World.drewN _) (Nat.add_assoc _ _ _))⟩); have p307 : 0 ≤ ((ji3) : Int) := of_decide_eq_true (by first | (with_reducible assumption) | assumption); have q307 : (ji3) < (l0.length : Int) := of_decide_eq_true (by first | (with_reducible assumption) | assumption); obtain ⟨ad307, e307, hx307_0, hx307_1⟩ := at_T81 HR0.out (ji3) p307 q307; obtain rfl : ad287 = ad307 := (by injection e307); replace p307 := eq_true p307; replace q307 := eq_true q307)); try go_wp2_with (first | (go_at_call 121; (with_reducible refine (spec_l2Starts.calls k _ _ l0 (wrap64 ((ji3) - 1)) t296 _ ?side1 ?side2 A16.out).mono ?_); (case side1 => repeat (first | exact HR0.out | (with_reducible refine Kd.C_alloc ?_ _) | (with_reducible refine Kd.C_drewN ?_ _) | (with_reducible refine Kd.C_drew ?_))); (case side2 => exact HC0.out); rintro e w' ⟨rfl, ⟨nd, rfl⟩⟩; (try first | exact ⟨rfl, _, World.drewN_drewN _ _ _⟩ | exact ⟨rfl, _, Eq.trans (World.drewN_drewN _ _ _) (congrArg (World.drewN _) (Nat.add_assoc _ _ _))⟩); have q28 : (t296 : Int) ≤ ((l0.length : Int) : Int) := of_decide_eq_true (by first | (with_reducible assumption) | assumption); obtain ⟨i028, hi028, _, hsz28, _⟩ := info_parts info81; have hroom28 : l0.length ≤ c0 := HC0.out; have hC28 : Kd.C k81 _ (some ad287) l0.length l0 := HR0.out; have hcut28 := cut_to (P := Try.prog) 56 81 .i64 Try.underlying56 hi028 (some ad287) l0.length c0 t296 (of_decide_eq_true (by first | (with_reducible assumption) | assumption)) q28 hroom28; have hr28 := Kd.C_take (m := (t296 : Int).toNat) hC28 (by omega); have hy28 : y297.length = (t296 : Int).toNat := (by rw [Ny297.out, List.length_take]; omega); rw [← Ny297.out] at hr28; rw [← hy28] at hcut28; have HR300 := Aside0.mk hr28; have HC300 := Aside0.mk (show y297.length ≤ c0 from by omega); clear hr28 hC28 hroom28 hi028 hsz28; have KY28 := Aside0.mk hy28; clear hy28; replace q28 := eq_true q28) | (go_at_call 111; (with_reducible refine (ih k (by omega) _ _ y297 a1 false _ ?side1 ?side2 A19.out).mono ?_); (case side1 => repeat (first | exact HR300.out | (with_reducible refine Kd.C_alloc ?_ _) | (with_reducible refine Kd.C_drewN ?_ _) | (with_reducible refine Kd.C_drew ?_))); (case side2 => exact HC300.out); rintro e w' ⟨rfl, ⟨nd, rfl⟩⟩; (try first | exact ⟨rfl, _, World.drewN_drewN _ _ _⟩ | exact ⟨rfl, _, Eq.trans (World.drewN_drewN _ _ _) (congrArg (World.drewN _) (Nat.add_assoc _ _ _))⟩); have q29 : ((ji3) : Int) ≤ ((l0.length : Int) : Int) := of_decide_eq_true (by first | (with_reducible assumption) | assumption); obtain ⟨i029, hi029, _, hsz29, _⟩ := info_parts info81; have hroom29 : l0.length ≤ c0 := HC0.out; have hC29 : Kd.C k81 _ (some ad287) l0.length l0 := HR0.out; have ql29 : (t296 : Int) ≤ ((ji3) : Int) := of_decide_eq_true (by first | (with_reducible assumption) | assumption); have q029 : (0 : Int) ≤ (t296 : Int) := of_decide_eq_true (by first | (with_reducible assumption) | assumption); have hcut29 := cut_mid (P := Try.prog) 56 81 .i64 .i64 Try.underlying56 hi029 2 hsz29 (some ad287) l0.length c0 t296 (ji3) q029 ql29 q29 hroom29; have hr29 := Kd.C_mid (lo := (t296 : Int).toNat) (hi := ((ji3) : Int).toNat) (c := c0) hC29 (by omega) (by omega) hroom29; obtain ⟨A29, hA29⟩ : ∃ A1, A1 = (if c0 = (t296 : Int).toNat then (some ad287) else ((some ad287) : Option Addr).map (·.add ((t296 : Int).toNat * 2))) := ⟨_, rfl⟩; obtain ⟨c29, hc29⟩ : ∃ c1, c1 = c0 - (t296 : Int).toNat := ⟨_, rfl⟩; have hy29 : y302.length = ((ji3) : Int).toNat - (t296 : Int).toNat := (by rw [Ny302.out, List.length_drop, List.length_take] <;> omega); rw [show ((l0).take ((ji3) : Int).toNat).drop (t296 : Int).toNat = y302 from Ny302.out.symm] at hr29; replace hr29 : Kd.C k81 _ A29 y302.length y302 := (by rw [hA29]; exact hr29); rw [← hy29, ← hA29, ← hc29] at hcut29; have HR305 := Aside0.mk hr29; have HC305 := Aside0.mk (show y302.length ≤ c29 from by rw [hy29, hc29]; exact Nat.sub_le_sub_right (Nat.le_trans (by omega) hroom29) _); clear hr29 hC29 hroom29 hi029 hsz29 hc29; have KY29 := Aside0.mk hy29; have KA29 := Aside0.mk hA29; clear hy29 hA29; replace q29 := eq_true q29) | (go_at_call 111; (with_reducible refine (ih k (by omega) _ _ y302 a1 t306 _ ?side1 ?side2 A23.out).mono ?_); (case side1 => repeat (first | exact HR305.out | (with_reducible refine Kd.C_alloc ?_ _) | (with_reducible refine Kd.C_drewN ?_ _) | (with_reducible refine Kd.C_drew ?_))); (case side2 => exact HC305.out); rintro e w' ⟨rfl, ⟨nd, rfl⟩⟩; (try first | exact ⟨rfl, _, World.drewN_drewN _ _ _⟩ | exact ⟨rfl, _, Eq.trans (World.drewN_drewN _ _ _) (congrArg (World.drewN _) (Nat.add_assoc _ _ _))⟩); have p307 : 0 ≤ ((ji3) : Int) := of_decide_eq_true (by first | (with_reducible assumption) | assumption); have q307 : (ji3) < (l0.length : Int) := of_decide_eq_true (by first | (with_reducible assumption) | assumption); obtain ⟨ad307, e307, hx307_0, hx307_1⟩ := at_T81 HR0.out (ji3) p307 q307; obtain rfl : ad287 = ad307 := (by injection e307); replace p307 := eq_true p307; replace q307 := eq_true q307)))
            go_ret
            exact ⟨by first | rfl | (simp; done) | (simp only [← hji3] <;> (first | rfl | simp)) | (simp [*]; done), by repeat (first | exact Drawn0.refl _ | apply Drawn0.step)⟩
          ·rw [if_neg c24] at H
           have c24b0 : (((rd_T81 l0 (ji3)).f0) == 3) = false := beq_eq_false_iff_ne.mpr c24
           have c24b1 : (((rd_T81 l0 (ji3)).f0) != 3) = true := bne_iff_ne.mpr c24
           by_cases c30 : ((rd_T81 l0 (ji3)).f0) = 4
           ·rw [if_pos c30] at H
            have c30b0 : (((rd_T81 l0 (ji3)).f0) == 4) = true := beq_iff_eq.mpr c30
            have c30b1 : (((rd_T81 l0 (ji3)).f0) != 4) = false := bne_eq_false_iff_eq.mpr c30
            clear c30
            by_cases c31 : t301 = true
            ·subst c31
             have H1 : (some true) = some r := by rw [if_pos rfl] at H; exact H
             clear H
             have H := H1
             clear H1
             obtain rfl := Option.some.inj H
             have p287 : 0 ≤ ((ji3) : Int) := of_decide_eq_true (by first | (with_reducible assumption) | assumption)
             have q287 : (ji3) < (l0.length : Int) := of_decide_eq_true (by first | (with_reducible assumption) | assumption)
             obtain ⟨ad287, e287, hx287_0, hx287_1⟩ := at_T81 HR0.out (ji3) p287 q287
             cases e287
             replace p287 := eq_true p287
             replace q287 := eq_true q287
             go_enter Try.func111, Try.ntmps111
             go_wp2_with (first | (go_at_call 121; (with_reducible refine (spec_l2Starts.calls k _ _ l0 (wrap64 ((ji3) - 1)) t296 _ ?side1 ?side2 A16.out).mono ?_); (case side1 => repeat (first | exact HR0.out | (with_reducible refine Kd.C_alloc ?_ _) | (with_reducible refine Kd.C_drewN ?_ _) | (with_reducible refine Kd.C_drew ?_))); (case side2 => exact HC0.out); rintro e w' ⟨rfl, ⟨nd, rfl⟩⟩; (try first | exact ⟨rfl, _, World.drewN_drewN _ _ _⟩ | exact ⟨rfl, _, Eq.trans (World.drewN_drewN _ _ _) (congrArg (World.drewN _) (Nat.add_assoc _ _ _))⟩); have q32 : (t296 : Int) ≤ ((l0.length : Int) : Int) := of_decide_eq_true (by first | (with_reducible assumption) | assumption); obtain ⟨i032, hi032, _, hsz32, _⟩ := info_parts info81; have hroom32 : l0.length ≤ c0 := HC0.out; have hC32 : Kd.C k81 _ (some ad287) l0.length l0 := HR0.out; have hcut32 := cut_to (P := Try.prog) 56 81 .i64 Try.underlying56 hi032 (some ad287) l0.length c0 t296 (of_decide_eq_true (by first | (with_reducible assumption) | assumption)) q32 hroom32; have hr32 := Kd.C_take (m := (t296 : Int).toNat) hC32 (by omega); have hy32 : y297.length = (t296 : Int).toNat := (by rw [Ny297.out, List.length_take]; omega); rw [← Ny297.out] at hr32; rw [← hy32] at hcut32; have HR300 := Aside0.mk hr32; have HC300 := Aside0.mk (show y297.length ≤ c0 from by omega); clear hr32 hC32 hroom32 hi032 hsz32; have KY32 := Aside0.mk hy32; clear hy32; replace q32 := eq_true q32) | (go_at_call 111; (with_reducible refine (ih k (by omega) _ _ y297 a1 true _ ?side1 ?side2 A19.out).mono ?_); (case side1 => repeat (first | exact HR300.out | (with_reducible refine Kd.C_alloc ?_ _) | (with_reducible refine Kd.C_drewN ?_ _) | (with_reducible refine Kd.C_drew ?_))); (case side2 => exact HC300.out); rintro e w' ⟨rfl, ⟨nd, rfl⟩⟩; (try first | exact ⟨rfl, _, World.drewN_drewN _ _ _⟩ | exact ⟨rfl, _, Eq.trans (World.drewN_drewN _ _ _) (congrArg (World.drewN _) (Nat.add_assoc _ _ _))⟩); have q33 : ((ji3) : Int) ≤ ((l0.length : Int) : Int) := of_decide_eq_true (by first | (with_reducible assumption) | assumption); obtain ⟨i033, hi033, _, hsz33, _⟩ := info_parts info81; have hroom33 : l0.length ≤ c0 := HC0.out; have hC33 : Kd.C k81 _ (some ad287) l0.length l0 := HR0.out; have ql33 : (t296 : Int) ≤ ((ji3) : Int) := of_decide_eq_true (by first | (with_reducible assumption) | assumption); have q033 : (0 : Int) ≤ (t296 : Int) := of_decide_eq_true (by first | (with_reducible assumption) | assumption); have hcut33 := cut_mid (P := Try.prog) 56 81 .i64 .i64 Try.underlying56 hi033 2 hsz33 (some ad287) l0.length c0 t296 (ji3) q033 ql33 q33 hroom33; have hr33 := Kd.C_mid (lo := (t296 : Int).toNat) (hi := ((ji3) : Int).toNat) (c := c0) hC33 (by omega) (by omega) hroom33; obtain ⟨A33, hA33⟩ : ∃ A1, A1 = (if c0 = (t296 : Int).toNat then (some ad287) else ((some ad287) : Option Addr).map (·.add ((t296 : Int).toNat * 2))) := ⟨_, rfl⟩; obtain ⟨c33, hc33⟩ : ∃ c1, c1 = c0 - (t296 : Int).toNat := ⟨_, rfl⟩; have hy33 : y302.length = ((ji3) : Int).toNat - (t296 : Int).toNat := (by rw [Ny302.out, List.length_drop, List.length_take] <;> omega); rw [show ((l0).take ((ji3) : Int).toNat).drop (t296 : Int).toNat = y302 from Ny302.out.symm] at hr33; replace hr33 : Kd.C k81 _ A33 y302.length y302 := (by rw [hA33]; exact hr33); rw [← hy33, ← hA33, ← hc33] at hcut33; have HR305 := Aside0.mk hr33; have HC305 := Aside0.mk (show y302.length ≤ c33 from by rw [hy33, hc33]; exact Nat.sub_le_sub_right (Nat.le_trans (by omega) hroom33) _); clear hr33 hC33 hroom33 hi033 hsz33 hc33; have KY33 := Aside0.mk hy33; have KA33 := Aside0.mk hA33; clear hy33 hA33; replace q33 := eq_true q33) | (go_at_call 111; (with_reducible refine (ih k (by omega) _ _ y302 a1 t306 _ ?side1 ?side2 A23.out).mono ?_); (case side1 => repeat (first | exact HR305.out | (with_reducible refine Kd.C_alloc ?_ _) | (with_reducible refine Kd.C_drewN ?_ _) | (with_reducible refine Kd.C_drew ?_))); (case side2 => exact HC305.out); rintro e w' ⟨rfl, ⟨nd, rfl⟩⟩; (try first | exact ⟨rfl, _, World.drewN_drewN _ _ _⟩ | exact ⟨rfl, _, Eq.trans (World.drewN_drewN _ _ _) (congrArg (World.drewN _) (Nat.add_assoc _ _ _))⟩); have p307 : 0 ≤ ((ji3) : Int) := of_decide_eq_true (by first | (with_reducible assumption) | assumption); have q307 : (ji3) < (l0.length : Int) := of_decide_eq_true (by first | (with_reducible assumption) | assumption); obtain ⟨ad307, e307, hx307_0, hx307_1⟩ := at_T81 HR0.out (ji3) p307 q307; obtain rfl : ad287 = ad307 := (by injection e307); replace p307 := eq_true p307; replace q307 := eq_true q307))
             repeat (go_quiet (first | (go_at_call 121; (with_reducible refine (spec_l2Starts.calls k _ _ l0 (wrap64 ((ji3) - 1)) t296 _ ?side1 ?side2 A16.out).mono ?_); (case side1 => repeat (first | exact HR0.out | (with_reducible refine Kd.C_alloc ?_ _) | (with_reducible refine Kd.C_drewN ?_ _) | (with_reducible refine Kd.C_drew ?_))); (case side2 => exact HC0.out); rintro e w' ⟨rfl, ⟨nd, rfl⟩⟩; (try first | exact ⟨rfl, _, World.drewN_drewN _ _ _⟩ | exact ⟨rfl, _, Eq.trans (World.drewN_drewN _ _ _) (congrArg (World.drewN _) (Nat.add_assoc _ _ _))⟩); have q32 : (t296 : Int) ≤ ((l0.length : Int) : Int) := of_decide_eq_true (by first | (with_reducible assumption) | assumption); obtain ⟨i032, hi032, _, hsz32, _⟩ := info_parts info81; have hroom32 : l0.length ≤ c0 := HC0.out; have hC32 : Kd.C k81 _ (some ad287) l0.length l0 := HR0.out; have hcut32 := cut_to (P := Try.prog) 56 81 .i64 Try.underlying56 hi032 (some ad287) l0.length c0 t296 (of_decide_eq_true (by first | (with_reducible assumption) | assumption)) q32 hroom32; have hr32 := Kd.C_take (m := (t296 : Int).toNat) hC32 (by omega); have hy32 : y297.length = (t296 : Int).toNat := (by rw [Ny297.out, List.length_take]; omega); rw [← Ny297.out] at hr32; rw [← hy32] at hcut32; have HR300 := Aside0.mk hr32; have HC300 := Aside0.mk (show y297.length ≤ c0 from by omega); clear hr32 hC32 hroom32 hi032 hsz32; have KY32 := Aside0.mk hy32; clear hy32; replace q32 := eq_true q32) | (go_at_call 111; (with_reducible refine (ih k (by omega) _ _ y297 a1 true _ ?side1 ?side2 A19.out).mono ?_); (case side1 => repeat (first | exact HR300.out | (with_reducible refine Kd.C_alloc ?_ _) | (with_reducible refine Kd.C_drewN ?_ _) | (with_reducible refine Kd.C_drew ?_))); (case side2 => exact HC300.out); rintro e w' ⟨rfl, ⟨nd, rfl⟩⟩; (try first | exact ⟨rfl, _, World.drewN_drewN _ _ _⟩ | exact ⟨rfl, _, Eq.trans (World.drewN_drewN _ _ _) (congrArg (World.drewN _) (Nat.add_assoc _ _ _))⟩); have q33 : ((ji3) : Int) ≤ ((l0.length : Int) : Int) := of_decide_eq_true (by first | (with_reducible assumption) | assumption); obtain ⟨i033, hi033, _, hsz33, _⟩ := info_parts info81; have hroom33 : l0.length ≤ c0 := HC0.out; have hC33 : Kd.C k81 _ (some ad287) l0.length l0 := HR0.out; have ql33 : (t296 : Int) ≤ ((ji3) : Int) := of_decide_eq_true (by first | (with_reducible assumption) | assumption); have q033 : (0 : Int) ≤ (t296 : Int) := of_decide_eq_true (by first | (with_reducible assumption) | assumption); have hcut33 := cut_mid (P := Try.prog) 56 81 .i64 .i64 Try.underlying56 hi033 2 hsz33 (some ad287) l0.length c0 t296 (ji3) q033 ql33 q33 hroom33; have hr33 := Kd.C_mid (lo := (t296 : Int).toNat) (hi := ((ji3) : Int).toNat) (c := c0) hC33 (by omega) (by omega) hroom33; obtain ⟨A33, hA33⟩ : ∃ A1, A1 = (if c0 = (t296 : Int).toNat then (some ad287) else ((some ad287) : Option Addr).map (·.add ((t296 : Int).toNat * 2))) := ⟨_, rfl⟩; obtain ⟨c33, hc33⟩ : ∃ c1, c1 = c0 - (t296 : Int).toNat := ⟨_, rfl⟩; have hy33 : y302.length = ((ji3) : Int).toNat - (t296 : Int).toNat := (by rw [Ny302.out, List.length_drop, List.length_take] <;> omega); rw [show ((l0).take ((ji3) : Int).toNat).drop (t296 : Int).toNat = y302 from Ny302.out.symm] at hr33; replace hr33 : Kd.C k81 _ A33 y302.length y302 := (by rw [hA33]; exact hr33); rw [← hy33, ← hA33, ← hc33] at hcut33; have HR305 := Aside0.mk hr33; have HC305 := Aside0.mk (show y302.length ≤ c33 from by rw [hy33, hc33]; exact Nat.sub_le_sub_right (Nat.le_trans (by omega) hroom33) _); clear hr33 hC33 hroom33 hi033 hsz33 hc33; have KY33 := Aside0.mk hy33; have KA33 := Aside0.mk hA33; clear hy33 hA33; replace q33 := eq_true q33) | (go_at_call 111; (with_reducible refine (ih k (by omega) _ _ y302 a1 t306 _ ?side1 ?side2 A23.out).mono ?_); (case side1 => repeat (first | exact HR305.out | (with_reducible refine Kd.C_alloc ?_ _) | (with_reducible refine Kd.C_drewN ?_ _) | (with_reducible refine Kd.C_drew ?_))); (case side2 => exact HC305.out); rintro e w' ⟨rfl, ⟨nd, rfl⟩⟩; (try first | exact ⟨rfl, _, World.drewN_drewN _ _ _⟩ | exact ⟨rfl, _, Eq.trans (World.drewN_drewN _ _ _) (congrArg (World.drewN _) (Nat.add_assoc _ _ _))⟩); have p307 : 0 ≤ ((ji3) : Int) := of_decide_eq_true (by first | (with_reducible assumption) | assumption); have q307 : (ji3) < (l0.length : Int) := of_decide_eq_true (by first | (with_reducible assumption) | assumption); obtain ⟨ad307, e307, hx307_0, hx307_1⟩ := at_T81 HR0.out (ji3) p307 q307; obtain rfl : ad287 = ad307 := (by injection e307); replace p307 := eq_true p307; replace q307 := eq_true q307)); try go_wp2_with (first | (go_at_call 121; (with_reducible refine (spec_l2Starts.calls k _ _ l0 (wrap64 ((ji3) - 1)) t296 _ ?side1 ?side2 A16.out).mono ?_); (case side1 => repeat (first | exact HR0.out | (with_reducible refine Kd.C_alloc ?_ _) | (with_reducible refine Kd.C_drewN ?_ _) | (with_reducible refine Kd.C_drew ?_))); (case side2 => exact HC0.out); rintro e w' ⟨rfl, ⟨nd, rfl⟩⟩; (try first | exact ⟨rfl, _, World.drewN_drewN _ _ _⟩ | exact ⟨rfl, _, Eq.trans (World.drewN_drewN _ _ _) (congrArg (World.drewN _) (Nat.add_assoc _ _ _))⟩); have q32 : (t296 : Int) ≤ ((l0.length : Int) : Int) := of_decide_eq_true (by first | (with_reducible assumption) | assumption); obtain ⟨i032, hi032, _, hsz32, _⟩ := info_parts info81; have hroom32 : l0.length ≤ c0 := HC0.out; have hC32 : Kd.C k81 _ (some ad287) l0.length l0 := HR0.out; have hcut32 := cut_to (P := Try.prog) 56 81 .i64 Try.underlying56 hi032 (some ad287) l0.length c0 t296 (of_decide_eq_true (by first | (with_reducible assumption) | assumption)) q32 hroom32; have hr32 := Kd.C_take (m := (t296 : Int).toNat) hC32 (by omega); have hy32 : y297.length = (t296 : Int).toNat := (by rw [Ny297.out, List.length_take]; omega); rw [← Ny297.out] at hr32; rw [← hy32] at hcut32; have HR300 := Aside0.mk hr32; have HC300 := Aside0.mk (show y297.length ≤ c0 from by omega); clear hr32 hC32 hroom32 hi032 hsz32; have KY32 := Aside0.mk hy32; clear hy32; replace q32 := eq_true q32) | (go_at_call 111; (with_reducible refine (ih k (by omega) _ _ y297 a1 true _ ?side1 ?side2 A19.out).mono ?_); (case side1 => repeat (first | exact HR300.out | (with_reducible refine Kd.C_alloc ?_ _) | (with_reducible refine Kd.C_drewN ?_ _) | (with_reducible refine Kd.C_drew ?_))); (case side2 => exact HC300.out); rintro e w' ⟨rfl, ⟨nd, rfl⟩⟩; (try first | exact ⟨rfl, _, World.drewN_drewN _ _ _⟩ | exact ⟨rfl, _, Eq.trans (World.drewN_drewN _ _ _) (congrArg (World.drewN _) (Nat.add_assoc _ _ _))⟩); have q33 : ((ji3) : Int) ≤ ((l0.length : Int) : Int) := of_decide_eq_true (by first | (with_reducible assumption) | assumption); obtain ⟨i033, hi033, _, hsz33, _⟩ := info_parts info81; have hroom33 : l0.length ≤ c0 := HC0.out; have hC33 : Kd.C k81 _ (some ad287) l0.length l0 := HR0.out; have ql33 : (t296 : Int) ≤ ((ji3) : Int) := of_decide_eq_true (by first | (with_reducible assumption) | assumption); have q033 : (0 : Int) ≤ (t296 : Int) := of_decide_eq_true (by first | (with_reducible assumption) | assumption); have hcut33 := cut_mid (P := Try.prog) 56 81 .i64 .i64 Try.underlying56 hi033 2 hsz33 (some ad287) l0.length c0 t296 (ji3) q033 ql33 q33 hroom33; have hr33 := Kd.C_mid (lo := (t296 : Int).toNat) (hi := ((ji3) : Int).toNat) (c := c0) hC33 (by omega) (by omega) hroom33; obtain ⟨A33, hA33⟩ : ∃ A1, A1 = (if c0 = (t296 : Int).toNat then (some ad287) else ((some ad287) : Option Addr).map (·.add ((t296 : Int).toNat * 2))) := ⟨_, rfl⟩; obtain ⟨c33, hc33⟩ : ∃ c1, c1 = c0 - (t296 : Int).toNat := ⟨_, rfl⟩; have hy33 : y302.length = ((ji3) : Int).toNat - (t296 : Int).toNat := (by rw [Ny302.out, List.length_drop, List.length_take] <;> omega); rw [show ((l0).take ((ji3) : Int).toNat).drop (t296 : Int).toNat = y302 from Ny302.out.symm] at hr33; replace hr33 : Kd.C k81 _ A33 y302.length y302 := (by rw [hA33]; exact hr33); rw [← hy33, ← hA33, ← hc33] at hcut33; have HR305 := Aside0.mk hr33; have HC305 := Aside0.mk (show y302.length ≤ c33 from by rw [hy33, hc33]; exact Nat.sub_le_sub_right (Nat.le_trans (by omega) hroom33) _); clear hr33 hC33 hroom33 hi033 hsz33 hc33; have KY33 := Aside0.mk hy33; have KA33 := Aside0.mk hA33; clear hy33 hA33; replace q33 := eq_true q33) | (go_at_call 111; (with_reducible refine (ih k (by omega) _ _ y302 a1 t306 _ ?side1 ?side2 A23.out).mono ?_); (case side1 => repeat (first | exact HR305.out | (with_reducible refine Kd.C_alloc ?_ _) | (with_reducible refine Kd.C_drewN ?_ _) | (with_reducible refine Kd.C_drew ?_))); (case side2 => exact HC305.out); rintro e w' ⟨rfl, ⟨nd, rfl⟩⟩; (try first | exact ⟨rfl, _, World.drewN_drewN _ _ _⟩ | exact ⟨rfl, _, Eq.trans (World.drewN_drewN _ _ _) (congrArg (World.drewN _) (Nat.add_assoc _ _ _))⟩); have p307 : 0 ≤ ((ji3) : Int) := of_decide_eq_true (by first | (with_reducible assumption) | assumption); have q307 : (ji3) < (l0.length : Int) := of_decide_eq_true (by first | (with_reducible assumption) | assumption); obtain ⟨ad307, e307, hx307_0, hx307_1⟩ := at_T81 HR0.out (ji3) p307 q307; obtain rfl : ad287 = ad307 := (by injection e307); replace p307 := eq_true p307; replace q307 := eq_true q307)))
             go_ret
             exact ⟨by first | rfl | (simp; done) | (simp only [← hji3] <;> (first | rfl | simp)) | (simp [*]; done), by repeat (first | exact Drawn0.refl _ | apply Drawn0.step)⟩
            ·replace c31 := Bool.eq_false_iff.mpr c31
             subst c31
             have H1 : (some t306) = some r := by rw [if_neg (show ¬ (false = true) by decide)] at H; exact H
             clear H
             have H := H1
             clear H1
             obtain rfl := Option.some.inj H
             have p287 : 0 ≤ ((ji3) : Int) := of_decide_eq_true (by first | (with_reducible assumption) | assumption)
             have q287 : (ji3) < (l0.length : Int) := of_decide_eq_true (by first | (with_reducible assumption) | assumption)
             obtain ⟨ad287, e287, hx287_0, hx287_1⟩ := at_T81 HR0.out (ji3) p287 q287
             cases e287
             replace p287 := eq_true p287
             replace q287 := eq_true q287
             go_enter Try.func111, Try.ntmps111
             go_wp2_with (first | (go_at_call 121; (with_reducible refine (spec_l2Starts.calls k _ _ l0 (wrap64 ((ji3) - 1)) t296 _ ?side1 ?side2 A16.out).mono ?_); (case side1 => repeat (first | exact HR0.out | (with_reducible refine Kd.C_alloc ?_ _) | (with_reducible refine Kd.C_drewN ?_ _) | (with_reducible refine Kd.C_drew ?_))); (case side2 => exact HC0.out); rintro e w' ⟨rfl, ⟨nd, rfl⟩⟩; (try first | exact ⟨rfl, _, World.drewN_drewN _ _ _⟩ | exact ⟨rfl, _, Eq.trans (World.drewN_drewN _ _ _) (congrArg (World.drewN _) (Nat.add_assoc _ _ _))⟩); have q34 : (t296 : Int) ≤ ((l0.length : Int) : Int) := of_decide_eq_true (by first | (with_reducible assumption) | assumption); obtain ⟨i034, hi034, _, hsz34, _⟩ := info_parts info81; have hroom34 : l0.length ≤ c0 := HC0.out; have hC34 : Kd.C k81 _ (some ad287) l0.length l0 := HR0.out; have hcut34 := cut_to (P := Try.prog) 56 81 .i64 Try.underlying56 hi034 (some ad287) l0.length c0 t296 (of_decide_eq_true (by first | (with_reducible assumption) | assumption)) q34 hroom34; have hr34 := Kd.C_take (m := (t296 : Int).toNat) hC34 (by omega); have hy34 : y297.length = (t296 : Int).toNat := (by rw [Ny297.out, List.length_take]; omega); rw [← Ny297.out] at hr34; rw [← hy34] at hcut34; have HR300 := Aside0.mk hr34; have HC300 := Aside0.mk (show y297.length ≤ c0 from by omega); clear hr34 hC34 hroom34 hi034 hsz34; have KY34 := Aside0.mk hy34; clear hy34; replace q34 := eq_true q34) | (go_at_call 111; (with_reducible refine (ih k (by omega) _ _ y297 a1 false _ ?side1 ?side2 A19.out).mono ?_); (case side1 => repeat (first | exact HR300.out | (with_reducible refine Kd.C_alloc ?_ _) | (with_reducible refine Kd.C_drewN ?_ _) | (with_reducible refine Kd.C_drew ?_))); (case side2 => exact HC300.out); rintro e w' ⟨rfl, ⟨nd, rfl⟩⟩; (try first | exact ⟨rfl, _, World.drewN_drewN _ _ _⟩ | exact ⟨rfl, _, Eq.trans (World.drewN_drewN _ _ _) (congrArg (World.drewN _) (Nat.add_assoc _ _ _))⟩); have q35 : ((ji3) : Int) ≤ ((l0.length : Int) : Int) := of_decide_eq_true (by first | (with_reducible assumption) | assumption); obtain ⟨i035, hi035, _, hsz35, _⟩ := info_parts info81; have hroom35 : l0.length ≤ c0 := HC0.out; have hC35 : Kd.C k81 _ (some ad287) l0.length l0 := HR0.out; have ql35 : (t296 : Int) ≤ ((ji3) : Int) := of_decide_eq_true (by first | (with_reducible assumption) | assumption); have q035 : (0 : Int) ≤ (t296 : Int) := of_decide_eq_true (by first | (with_reducible assumption) | assumption); have hcut35 := cut_mid (P := Try.prog) 56 81 .i64 .i64 Try.underlying56 hi035 2 hsz35 (some ad287) l0.length c0 t296 (ji3) q035 ql35 q35 hroom35; have hr35 := Kd.C_mid (lo := (t296 : Int).toNat) (hi := ((ji3) : Int).toNat) (c := c0) hC35 (by omega) (by omega) hroom35; obtain ⟨A35, hA35⟩ : ∃ A1, A1 = (if c0 = (t296 : Int).toNat then (some ad287) else ((some ad287) : Option Addr).map (·.add ((t296 : Int).toNat * 2))) := ⟨_, rfl⟩; obtain ⟨c35, hc35⟩ : ∃ c1, c1 = c0 - (t296 : Int).toNat := ⟨_, rfl⟩; have hy35 : y302.length = ((ji3) : Int).toNat - (t296 : Int).toNat := (by rw [Ny302.out, List.length_drop, List.length_take] <;> omega); rw [show ((l0).take ((ji3) : Int).toNat).drop (t296 : Int).toNat = y302 from Ny302.out.symm] at hr35; replace hr35 : Kd.C k81 _ A35 y302.length y302 := (by rw [hA35]; exact hr35); rw [← hy35, ← hA35, ← hc35] at hcut35; have HR305 := Aside0.mk hr35; have HC305 := Aside0.mk (show y302.length ≤ c35 from by rw [hy35, hc35]; exact Nat.sub_le_sub_right (Nat.le_trans (by omega) hroom35) _); clear hr35 hC35 hroom35 hi035 hsz35 hc35; have KY35 := Aside0.mk hy35; have KA35 := Aside0.mk hA35; clear hy35 hA35; replace q35 := eq_true q35) | (go_at_call 111; (with_reducible refine (ih k (by omega) _ _ y302 a1 t306 _ ?side1 ?side2 A23.out).mono ?_); (case side1 => repeat (first | exact HR305.out | (with_reducible refine Kd.C_alloc ?_ _) | (with_reducible refine Kd.C_drewN ?_ _) | (with_reducible refine Kd.C_drew ?_))); (case side2 => exact HC305.out); rintro e w' ⟨rfl, ⟨nd, rfl⟩⟩; (try first | exact ⟨rfl, _, World.drewN_drewN _ _ _⟩ | exact ⟨rfl, _, Eq.trans (World.drewN_drewN _ _ _) (congrArg (World.drewN _) (Nat.add_assoc _ _ _))⟩); have p307 : 0 ≤ ((ji3) : Int) := of_decide_eq_true (by first | (with_reducible assumption) | assumption); have q307 : (ji3) < (l0.length : Int) := of_decide_eq_true (by first | (with_reducible assumption) | assumption); obtain ⟨ad307, e307, hx307_0, hx307_1⟩ := at_T81 HR0.out (ji3) p307 q307; obtain rfl : ad287 = ad307 := (by injection e307); replace p307 := eq_true p307; replace q307 := eq_true q307))
             repeat (go_quiet (first | (go_at_call 121; (with_reducible refine (spec_l2Starts.calls k _ _ l0 (wrap64 ((ji3) - 1)) t296 _ ?side1 ?side2 A16.out).mono ?_); (case side1 => repeat (first | exact HR0.out | (with_reducible refine Kd.C_alloc ?_ _) | (with_reducible refine Kd.C_drewN ?_ _) | (with_reducible refine Kd.C_drew ?_))); (case side2 => exact HC0.out); rintro e w' ⟨rfl, ⟨nd, rfl⟩⟩; (try first | exact ⟨rfl, _, World.drewN_drewN _ _ _⟩ | exact ⟨rfl, _, Eq.trans (World.drewN_drewN _ _ _) (congrArg (World.drewN _) (Nat.add_assoc _ _ _))⟩); have q34 : (t296 : Int) ≤ ((l0.length : Int) : Int) := of_decide_eq_true (by first | (with_reducible assumption) | assumption); obtain ⟨i034, hi034, _, hsz34, _⟩ := info_parts info81; have hroom34 : l0.length ≤ c0 := HC0.out; have hC34 : Kd.C k81 _ (some ad287) l0.length l0 := HR0.out; have hcut34 := cut_to (P := Try.prog) 56 81 .i64 Try.underlying56 hi034 (some ad287) l0.length c0 t296 (of_decide_eq_true (by first | (with_reducible assumption) | assumption)) q34 hroom34; have hr34 := Kd.C_take (m := (t296 : Int).toNat) hC34 (by omega); have hy34 : y297.length = (t296 : Int).toNat := (by rw [Ny297.out, List.length_take]; omega); rw [← Ny297.out] at hr34; rw [← hy34] at hcut34; have HR300 := Aside0.mk hr34; have HC300 := Aside0.mk (show y297.length ≤ c0 from by omega); clear hr34 hC34 hroom34 hi034 hsz34; have KY34 := Aside0.mk hy34; clear hy34; replace q34 := eq_true q34) | (go_at_call 111; (with_reducible refine (ih k (by omega) _ _ y297 a1 false _ ?side1 ?side2 A19.out).mono ?_); (case side1 => repeat (first | exact HR300.out | (with_reducible refine Kd.C_alloc ?_ _) | (with_reducible refine Kd.C_drewN ?_ _) | (with_reducible refine Kd.C_drew ?_))); (case side2 => exact HC300.out); rintro e w' ⟨rfl, ⟨nd, rfl⟩⟩; (try first | exact ⟨rfl, _, World.drewN_drewN _ _ _⟩ | exact ⟨rfl, _, Eq.trans (World.drewN_drewN _ _ _) (congrArg (World.drewN _) (Nat.add_assoc _ _ _))⟩); have q35 : ((ji3) : Int) ≤ ((l0.length : Int) : Int) := of_decide_eq_true (by first | (with_reducible assumption) | assumption); obtain ⟨i035, hi035, _, hsz35, _⟩ := info_parts info81; have hroom35 : l0.length ≤ c0 := HC0.out; have hC35 : Kd.C k81 _ (some ad287) l0.length l0 := HR0.out; have ql35 : (t296 : Int) ≤ ((ji3) : Int) := of_decide_eq_true (by first | (with_reducible assumption) | assumption); have q035 : (0 : Int) ≤ (t296 : Int) := of_decide_eq_true (by first | (with_reducible assumption) | assumption); have hcut35 := cut_mid (P := Try.prog) 56 81 .i64 .i64 Try.underlying56 hi035 2 hsz35 (some ad287) l0.length c0 t296 (ji3) q035 ql35 q35 hroom35; have hr35 := Kd.C_mid (lo := (t296 : Int).toNat) (hi := ((ji3) : Int).toNat) (c := c0) hC35 (by omega) (by omega) hroom35; obtain ⟨A35, hA35⟩ : ∃ A1, A1 = (if c0 = (t296 : Int).toNat then (some ad287) else ((some ad287) : Option Addr).map (·.add ((t296 : Int).toNat * 2))) := ⟨_, rfl⟩; obtain ⟨c35, hc35⟩ : ∃ c1, c1 = c0 - (t296 : Int).toNat := ⟨_, rfl⟩; have hy35 : y302.length = ((ji3) : Int).toNat - (t296 : Int).toNat := (by rw [Ny302.out, List.length_drop, List.length_take] <;> omega); rw [show ((l0).take ((ji3) : Int).toNat).drop (t296 : Int).toNat = y302 from Ny302.out.symm] at hr35; replace hr35 : Kd.C k81 _ A35 y302.length y302 := (by rw [hA35]; exact hr35); rw [← hy35, ← hA35, ← hc35] at hcut35; have HR305 := Aside0.mk hr35; have HC305 := Aside0.mk (show y302.length ≤ c35 from by rw [hy35, hc35]; exact Nat.sub_le_sub_right (Nat.le_trans (by omega) hroom35) _); clear hr35 hC35 hroom35 hi035 hsz35 hc35; have KY35 := Aside0.mk hy35; have KA35 := Aside0.mk hA35; clear hy35 hA35; replace q35 := eq_true q35) | (go_at_call 111; (with_reducible refine (ih k (by omega) _ _ y302 a1 t306 _ ?side1 ?side2 A23.out).mono ?_); (case side1 => repeat (first | exact HR305.out | (with_reducible refine Kd.C_alloc ?_ _) | (with_reducible refine Kd.C_drewN ?_ _) | (with_reducible refine Kd.C_drew ?_))); (case side2 => exact HC305.out); rintro e w' ⟨rfl, ⟨nd, rfl⟩⟩; (try first | exact ⟨rfl, _, World.drewN_drewN _ _ _⟩ | exact ⟨rfl, _, Eq.trans (World.drewN_drewN _ _ _) (congrArg (World.drewN _) (Nat.add_assoc _ _ _))⟩); have p307 : 0 ≤ ((ji3) : Int) := of_decide_eq_true (by first | (with_reducible assumption) | assumption); have q307 : (ji3) < (l0.length : Int) := of_decide_eq_true (by first | (with_reducible assumption) | assumption); obtain ⟨ad307, e307, hx307_0, hx307_1⟩ := at_T81 HR0.out (ji3) p307 q307; obtain rfl : ad287 = ad307 := (by injection e307); replace p307 := eq_true p307; replace q307 := eq_true q307)); try go_wp2_with (first | (go_at_call 121; (with_reducible refine (spec_l2Starts.calls k _ _ l0 (wrap64 ((ji3) - 1)) t296 _ ?side1 ?side2 A16.out).mono ?_); (case side1 => repeat (first | exact HR0.out | (with_reducible refine Kd.C_alloc ?_ _) | (with_reducible refine Kd.C_drewN ?_ _) | (with_reducible refine Kd.C_drew ?_))); (case side2 => exact HC0.out); rintro e w' ⟨rfl, ⟨nd, rfl⟩⟩; (try first | exact ⟨rfl, _, World.drewN_drewN _ _ _⟩ | exact ⟨rfl, _, Eq.trans (World.drewN_drewN _ _ _) (congrArg (World.drewN _) (Nat.add_assoc _ _ _))⟩); have q34 : (t296 : Int) ≤ ((l0.length : Int) : Int) := of_decide_eq_true (by first | (with_reducible assumption) | assumption); obtain ⟨i034, hi034, _, hsz34, _⟩ := info_parts info81; have hroom34 : l0.length ≤ c0 := HC0.out; have hC34 : Kd.C k81 _ (some ad287) l0.length l0 := HR0.out; have hcut34 := cut_to (P := Try.prog) 56 81 .i64 Try.underlying56 hi034 (some ad287) l0.length c0 t296 (of_decide_eq_true (by first | (with_reducible assumption) | assumption)) q34 hroom34; have hr34 := Kd.C_take (m := (t296 : Int).toNat) hC34 (by omega); have hy34 : y297.length = (t296 : Int).toNat := (by rw [Ny297.out, List.length_take]; omega); rw [← Ny297.out] at hr34; rw [← hy34] at hcut34; have HR300 := Aside0.mk hr34; have HC300 := Aside0.mk (show y297.length ≤ c0 from by omega); clear hr34 hC34 hroom34 hi034 hsz34; have KY34 := Aside0.mk hy34; clear hy34; replace q34 := eq_true q34) | (go_at_call 111; (with_reducible refine (ih k (by omega) _ _ y297 a1 false _ ?side1 ?side2 A19.out).mono ?_); (case side1 => repeat (first | exact HR300.out | (with_reducible refine Kd.C_alloc ?_ _) | (with_reducible refine Kd.C_drewN ?_ _) | (with_reducible refine Kd.C_drew ?_))); (case side2 => exact HC300.out); rintro e w' ⟨rfl, ⟨nd, rfl⟩⟩; (try first | exact ⟨rfl, _, World.drewN_drewN _ _ _⟩ | exact ⟨rfl, _, Eq.trans (World.drewN_drewN _ _ _) (congrArg (World.drewN _) (Nat.add_assoc _ _ _))⟩); have q35 : ((ji3) : Int) ≤ ((l0.length : Int) : Int) := of_decide_eq_true (by first | (with_reducible assumption) | assumption); obtain ⟨i035, hi035, _, hsz35, _⟩ := info_parts info81; have hroom35 : l0.length ≤ c0 := HC0.out; have hC35 : Kd.C k81 _ (some ad287) l0.length l0 := HR0.out; have ql35 : (t296 : Int) ≤ ((ji3) : Int) := of_decide_eq_true (by first | (with_reducible assumption) | assumption); have q035 : (0 : Int) ≤ (t296 : Int) := of_decide_eq_true (by first | (with_reducible assumption) | assumption); have hcut35 := cut_mid (P := Try.prog) 56 81 .i64 .i64 Try.underlying56 hi035 2 hsz35 (some ad287) l0.length c0 t296 (ji3) q035 ql35 q35 hroom35; have hr35 := Kd.C_mid (lo := (t296 : Int).toNat) (hi := ((ji3) : Int).toNat) (c := c0) hC35 (by omega) (by omega) hroom35; obtain ⟨A35, hA35⟩ : ∃ A1, A1 = (if c0 = (t296 : Int).toNat then (some ad287) else ((some ad287) : Option Addr).map (·.add ((t296 : Int).toNat * 2))) := ⟨_, rfl⟩; obtain ⟨c35, hc35⟩ : ∃ c1, c1 = c0 - (t296 : Int).toNat := ⟨_, rfl⟩; have hy35 : y302.length = ((ji3) : Int).toNat - (t296 : Int).toNat := (by rw [Ny302.out, List.length_drop, List.length_take] <;> omega); rw [show ((l0).take ((ji3) : Int).toNat).drop (t296 : Int).toNat = y302 from Ny302.out.symm] at hr35; replace hr35 : Kd.C k81 _ A35 y302.length y302 := (by rw [hA35]; exact hr35); rw [← hy35, ← hA35, ← hc35] at hcut35; have HR305 := Aside0.mk hr35; have HC305 := Aside0.mk (show y302.length ≤ c35 from by rw [hy35, hc35]; exact Nat.sub_le_sub_right (Nat.le_trans (by omega) hroom35) _); clear hr35 hC35 hroom35 hi035 hsz35 hc35; have KY35 := Aside0.mk hy35; have KA35 := Aside0.mk hA35; clear hy35 hA35; replace q35 := eq_true q35) | (go_at_call 111; (with_reducible refine (ih k (by omega) _ _ y302 a1 t306 _ ?side1 ?side2 A23.out).mono ?_); (case side1 => repeat (first | exact HR305.out | (with_reducible refine Kd.C_alloc ?_ _) | (with_reducible refine Kd.C_drewN ?_ _) | (with_reducible refine Kd.C_drew ?_))); (case side2 => exact HC305.out); rintro e w' ⟨rfl, ⟨nd, rfl⟩⟩; (try first | exact ⟨rfl, _, World.drewN_drewN _ _ _⟩ | exact ⟨rfl, _, Eq.trans (World.drewN_drewN _ _ _) (congrArg (World.drewN _) (Nat.add_assoc _ _ _))⟩); have p307 : 0 ≤ ((ji3) : Int) := of_decide_eq_true (by first | (with_reducible assumption) | assumption); have q307 : (ji3) < (l0.length : Int) := of_decide_eq_true (by first | (with_reducible assumption) | assumption); obtain ⟨ad307, e307, hx307_0, hx307_1⟩ := at_T81 HR0.out (ji3) p307 q307; obtain rfl : ad287 = ad307 := (by injection e307); replace p307 := eq_true p307; replace q307 := eq_true q307)))
             go_ret
             exact ⟨by first | rfl | (simp; done) | (simp only [← hji3] <;> (first | rfl | simp)) | (simp [*]; done), by repeat (first | exact Drawn0.refl _ | apply Drawn0.step)⟩
           ·rw [if_neg c30] at H
            have c30b0 : (((rd_T81 l0 (ji3)).f0) == 4) = false := beq_eq_false_iff_ne.mpr c30
            have c30b1 : (((rd_T81 l0 (ji3)).f0) != 4) = true := bne_iff_ne.mpr c30
            obtain rfl := Option.some.inj H
            have p287 : 0 ≤ ((ji3) : Int) := of_decide_eq_true (by first | (with_reducible assumption) | assumption)
            have q287 : (ji3) < (l0.length : Int) := of_decide_eq_true (by first | (with_reducible assumption) | assumption)
            obtain ⟨ad287, e287, hx287_0, hx287_1⟩ := at_T81 HR0.out (ji3) p287 q287
            cases e287
            replace p287 := eq_true p287
            replace q287 := eq_true q287
            go_enter Try.func111, Try.ntmps111
            go_wp2_with (first | (go_at_call 121; (with_reducible refine (spec_l2Starts.calls k _ _ l0 (wrap64 ((ji3) - 1)) t296 _ ?side1 ?side2 A16.out).mono ?_); (case side1 => repeat (first | exact HR0.out | (with_reducible refine Kd.C_alloc ?_ _) | (with_reducible refine Kd.C_drewN ?_ _) | (with_reducible refine Kd.C_drew ?_))); (case side2 => exact HC0.out); rintro e w' ⟨rfl, ⟨nd, rfl⟩⟩; (try first | exact ⟨rfl, _, World.drewN_drewN _ _ _⟩ | exact ⟨rfl, _, Eq.trans (World.drewN_drewN _ _ _) (congrArg (World.drewN _) (Nat.add_assoc _ _ _))⟩); have q36 : (t296 : Int) ≤ ((l0.length : Int) : Int) := of_decide_eq_true (by first | (with_reducible assumption) | assumption); obtain ⟨i036, hi036, _, hsz36, _⟩ := info_parts info81; have hroom36 : l0.length ≤ c0 := HC0.out; have hC36 : Kd.C k81 _ (some ad287) l0.length l0 := HR0.out; have hcut36 := cut_to (P := Try.prog) 56 81 .i64 Try.underlying56 hi036 (some ad287) l0.length c0 t296 (of_decide_eq_true (by first | (with_reducible assumption) | assumption)) q36 hroom36; have hr36 := Kd.C_take (m := (t296 : Int).toNat) hC36 (by omega); have hy36 : y297.length = (t296 : Int).toNat := (by rw [Ny297.out, List.length_take]; omega); rw [← Ny297.out] at hr36; rw [← hy36] at hcut36; have HR300 := Aside0.mk hr36; have HC300 := Aside0.mk (show y297.length ≤ c0 from by omega); clear hr36 hC36 hroom36 hi036 hsz36; have KY36 := Aside0.mk hy36; clear hy36; replace q36 := eq_true q36) | (go_at_call 111; (with_reducible refine (ih k (by omega) _ _ y297 a1 t301 _ ?side1 ?side2 A19.out).mono ?_); (case side1 => repeat (first | exact HR300.out | (with_reducible refine Kd.C_alloc ?_ _) | (with_reducible refine Kd.C_drewN ?_ _) | (with_reducible refine Kd.C_drew ?_))); (case side2 => exact HC300.out); rintro e w' ⟨rfl, ⟨nd, rfl⟩⟩; (try first | exact ⟨rfl, _, World.drewN_drewN _ _ _⟩ | exact ⟨rfl, _, Eq.trans (World.drewN_drewN _ _ _) (congrArg (World.drewN _) (Nat.add_assoc _ _ _))⟩); have q37 : ((ji3) : Int) ≤ ((l0.length : Int) : Int) := of_decide_eq_true (by first | (with_reducible assumption) | assumption); obtain ⟨i037, hi037, _, hsz37, _⟩ := info_parts info81; have hroom37 : l0.length ≤ c0 := HC0.out; have hC37 : Kd.C k81 _ (some ad287) l0.length l0 := HR0.out; have ql37 : (t296 : Int) ≤ ((ji3) : Int) := of_decide_eq_true (by first | (with_reducible assumption) | assumption); have q037 : (0 : Int) ≤ (t296 : Int) := of_decide_eq_true (by first | (with_reducible assumption) | assumption); have hcut37 := cut_mid (P := Try.prog) 56 81 .i64 .i64 Try.underlying56 hi037 2 hsz37 (some ad287) l0.length c0 t296 (ji3) q037 ql37 q37 hroom37; have hr37 := Kd.C_mid (lo := (t296 : Int).toNat) (hi := ((ji3) : Int).toNat) (c := c0) hC37 (by omega) (by omega) hroom37; obtain ⟨A37, hA37⟩ : ∃ A1, A1 = (if c0 = (t296 : Int).toNat then (some ad287) else ((some ad287) : Option Addr).map (·.add ((t296 : Int).toNat * 2))) := ⟨_, rfl⟩; obtain ⟨c37, hc37⟩ : ∃ c1, c1 = c0 - (t296 : Int).toNat := ⟨_, rfl⟩; have hy37 : y302.length = ((ji3) : Int).toNat - (t296 : Int).toNat := (by rw [Ny302.out, List.length_drop, List.length_take] <;> omega); rw [show ((l0).take ((ji3) : Int).toNat).drop (t296 : Int).toNat = y302 from Ny302.out.symm] at hr37; replace hr37 : Kd.C k81 _ A37 y302.length y302 := (by rw [hA37]; exact hr37); rw [← hy37, ← hA37, ← hc37] at hcut37; have HR305 := Aside0.mk hr37; have HC305 := Aside0.mk (show y302.length ≤ c37 from by rw [hy37, hc37]; exact Nat.sub_le_sub_right (Nat.le_trans (by omega) hroom37) _); clear hr37 hC37 hroom37 hi037 hsz37 hc37; have KY37 := Aside0.mk hy37; have KA37 := Aside0.mk hA37; clear hy37 hA37; replace q37 := eq_true q37) | (go_at_call 111; (with_reducible refine (ih k (by omega) _ _ y302 a1 t306 _ ?side1 ?side2 A23.out).mono ?_); (case side1 => repeat (first | exact HR305.out | (with_reducible refine Kd.C_alloc ?_ _) | (with_reducible refine Kd.C_drewN ?_ _) | (with_reducible refine Kd.C_drew ?_))); (case side2 => exact HC305.out); rintro e w' ⟨rfl, ⟨nd, rfl⟩⟩; (try first | exact ⟨rfl, _, World.drewN_drewN _ _ _⟩ | exact ⟨rfl, _, Eq.trans (World.drewN_drewN _ _ _) (congrArg (World.drewN _) (Nat.add_assoc _ _ _))⟩); have p307 : 0 ≤ ((ji3) : Int) := of_decide_eq_true (by first | (with_reducible assumption) | assumption); have q307 : (ji3) < (l0.length : Int) := of_decide_eq_true (by first | (with_reducible assumption) | assumption); obtain ⟨ad307, e307, hx307_0, hx307_1⟩ := at_T81 HR0.out (ji3) p307 q307; obtain rfl : ad287 = ad307 := (by injection e307); replace p307 := eq_true p307; replace q307 := eq_true q307))
            repeat (go_quiet (first | (go_at_call 121; (with_reducible refine (spec_l2Starts.calls k _ _ l0 (wrap64 ((ji3) - 1)) t296 _ ?side1 ?side2 A16.out).mono ?_); (case side1 => repeat (first | exact HR0.out | (with_reducible refine Kd.C_alloc ?_ _) | (with_reducible refine Kd.C_drewN ?_ _) | (with_reducible refine Kd.C_drew ?_))); (case side2 => exact HC0.out); rintro e w' ⟨rfl, ⟨nd, rfl⟩⟩; (try first | exact ⟨rfl, _, World.drewN_drewN _ _ _⟩ | exact ⟨rfl, _, Eq.trans (World.drewN_drewN _ _ _) (congrArg (World.drewN _) (Nat.add_assoc _ _ _))⟩); have q36 : (t296 : Int) ≤ ((l0.length : Int) : Int) := of_decide_eq_true (by first | (with_reducible assumption) | assumption); obtain ⟨i036, hi036, _, hsz36, _⟩ := info_parts info81; have hroom36 : l0.length ≤ c0 := HC0.out; have hC36 : Kd.C k81 _ (some ad287) l0.length l0 := HR0.out; have hcut36 := cut_to (P := Try.prog) 56 81 .i64 Try.underlying56 hi036 (some ad287) l0.length c0 t296 (of_decide_eq_true (by first | (with_reducible assumption) | assumption)) q36 hroom36; have hr36 := Kd.C_take (m := (t296 : Int).toNat) hC36 (by omega); have hy36 : y297.length = (t296 : Int).toNat := (by rw [Ny297.out, List.length_take]; omega); rw [← Ny297.out] at hr36; rw [← hy36] at hcut36; have HR300 := Aside0.mk hr36; have HC300 := Aside0.mk (show y297.length ≤ c0 from by omega); clear hr36 hC36 hroom36 hi036 hsz36; have KY36 := Aside0.mk hy36; clear hy36; replace q36 := eq_true q36) | (go_at_call 111; (with_reducible refine (ih k (by omega) _ _ y297 a1 t301 _ ?side1 ?side2 A19.out).mono ?_); (case side1 => repeat (first | exact HR300.out | (with_reducible refine Kd.C_alloc ?_ _) | (with_reducible refine Kd.C_drewN ?_ _) | (with_reducible refine Kd.C_drew ?_))); (case side2 => exact HC300.out); rintro e w' ⟨rfl, ⟨nd, rfl⟩⟩; (try first | exact ⟨rfl, _, World.drewN_drewN _ _ _⟩ | exact ⟨rfl, _, Eq.trans (World.drewN_drewN _ _ _) (congrArg (World.drewN _) (Nat.add_assoc _ _ _))⟩); have q37 : ((ji3) : Int) ≤ ((l0.length : Int) : Int) := of_decide_eq_true (by first | (with_reducible assumption) | assumption); obtain ⟨i037, hi037, _, hsz37, _⟩ := info_parts info81; have hroom37 : l0.length ≤ c0 := HC0.out; have hC37 : Kd.C k81 _ (some ad287) l0.length l0 := HR0.out; have ql37 : (t296 : Int) ≤ ((ji3) : Int) := of_decide_eq_true (by first | (with_reducible assumption) | assumption); have q037 : (0 : Int) ≤ (t296 : Int) := of_decide_eq_true (by first | (with_reducible assumption) | assumption); have hcut37 := cut_mid (P := Try.prog) 56 81 .i64 .i64 Try.underlying56 hi037 2 hsz37 (some ad287) l0.length c0 t296 (ji3) q037 ql37 q37 hroom37; have hr37 := Kd.C_mid (lo := (t296 : Int).toNat) (hi := ((ji3) : Int).toNat) (c := c0) hC37 (by omega) (by omega) hroom37; obtain ⟨A37, hA37⟩ : ∃ A1, A1 = (if c0 = (t296 : Int).toNat then (some ad287) else ((some ad287) : Option Addr).map (·.add ((t296 : Int).toNat * 2))) := ⟨_, rfl⟩; obtain ⟨c37, hc37⟩ : ∃ c1, c1 = c0 - (t296 : Int).toNat := ⟨_, rfl⟩; have hy37 : y302.length = ((ji3) : Int).toNat - (t296 : Int).toNat := (by rw [Ny302.out, List.length_drop, List.length_take] <;> omega); rw [show ((l0).take ((ji3) : Int).toNat).drop (t296 : Int).toNat = y302 from Ny302.out.symm] at hr37; replace hr37 : Kd.C k81 _ A37 y302.length y302 := (by rw [hA37]; exact hr37); rw [← hy37, ← hA37, ← hc37] at hcut37; have HR305 := Aside0.mk hr37; have HC305 := Aside0.mk (show y302.length ≤ c37 from by rw [hy37, hc37]; exact Nat.sub_le_sub_right (Nat.le_trans (by omega) hroom37) _); clear hr37 hC37 hroom37 hi037 hsz37 hc37; have KY37 := Aside0.mk hy37; have KA37 := Aside0.mk hA37; clear hy37 hA37; replace q37 := eq_true q37) | (go_at_call 111; (with_reducible refine (ih k (by omega) _ _ y302 a1 t306 _ ?side1 ?side2 A23.out).mono ?_); (case side1 => repeat (first | exact HR305.out | (with_reducible refine Kd.C_alloc ?_ _) | (with_reducible refine Kd.C_drewN ?_ _) | (with_reducible refine Kd.C_drew ?_))); (case side2 => exact HC305.out); rintro e w' ⟨rfl, ⟨nd, rfl⟩⟩; (try first | exact ⟨rfl, _, World.drewN_drewN _ _ _⟩ | exact ⟨rfl, _, Eq.trans (World.drewN_drewN _ _ _) (congrArg (World.drewN _) (Nat.add_assoc _ _ _))⟩); have p307 : 0 ≤ ((ji3) : Int) := of_decide_eq_true (by first | (with_reducible assumption) | assumption); have q307 : (ji3) < (l0.length : Int) := of_decide_eq_true (by first | (with_reducible assumption) | assumption); obtain ⟨ad307, e307, hx307_0, hx307_1⟩ := at_T81 HR0.out (ji3) p307 q307; obtain rfl : ad287 = ad307 := (by injection e307); replace p307 := eq_true p307; replace q307 := eq_true q307)); try go_wp2_with (first | (go_at_call 121; (with_reducible refine (spec_l2Starts.calls k _ _ l0 (wrap64 ((ji3) - 1)) t296 _ ?side1 ?side2 A16.out).mono ?_); (case side1 => repeat (first | exact HR0.out | (with_reducible refine Kd.C_alloc ?_ _) | (with_reducible refine Kd.C_drewN ?_ _) | (with_reducible refine Kd.C_drew ?_))); (case side2 => exact HC0.out); rintro e w' ⟨rfl, ⟨nd, rfl⟩⟩; (try first | exact ⟨rfl, _, World.drewN_drewN _ _ _⟩ | exact ⟨rfl, _, Eq.trans (World.drewN_drewN _ _ _) (congrArg (World.drewN _) (Nat.add_assoc _ _ _))⟩); have q36 : (t296 : Int) ≤ ((l0.length : Int) : Int) := of_decide_eq_true (by first | (with_reducible assumption) | assumption); obtain ⟨i036, hi036, _, hsz36, _⟩ := info_parts info81; have hroom36 : l0.length ≤ c0 := HC0.out; have hC36 : Kd.C k81 _ (some ad287) l0.length l0 := HR0.out; have hcut36 := cut_to (P := Try.prog) 56 81 .i64 Try.underlying56 hi036 (some ad287) l0.length c0 t296 (of_decide_eq_true (by first | (with_reducible assumption) | assumption)) q36 hroom36; have hr36 := Kd.C_take (m := (t296 : Int).toNat) hC36 (by omega); have hy36 : y297.length = (t296 : Int).toNat := (by rw [Ny297.out, List.length_take]; omega); rw [← Ny297.out] at hr36; rw [← hy36] at hcut36; have HR300 := Aside0.mk hr36; have HC300 := Aside0.mk (show y297.length ≤ c0 from by omega); clear hr36 hC36 hroom36 hi036 hsz36; have KY36 := Aside0.mk hy36; clear hy36; replace q36 := eq_true q36) | (go_at_call 111; (with_reducible refine (ih k (by omega) _ _ y297 a1 t301 _ ?side1 ?side2 A19.out).mono ?_); (case side1 => repeat (first | exact HR300.out | (with_reducible refine Kd.C_alloc ?_ _) | (with_reducible refine Kd.C_drewN ?_ _) | (with_reducible refine Kd.C_drew ?_))); (case side2 => exact HC300.out); rintro e w' ⟨rfl, ⟨nd, rfl⟩⟩; (try first | exact ⟨rfl, _, World.drewN_drewN _ _ _⟩ | exact ⟨rfl, _, Eq.trans (World.drewN_drewN _ _ _) (congrArg (World.drewN _) (Nat.add_assoc _ _ _))⟩); have q37 : ((ji3) : Int) ≤ ((l0.length : Int) : Int) := of_decide_eq_true (by first | (with_reducible assumption) | assumption); obtain ⟨i037, hi037, _, hsz37, _⟩ := info_parts info81; have hroom37 : l0.length ≤ c0 := HC0.out; have hC37 : Kd.C k81 _ (some ad287) l0.length l0 := HR0.out; have ql37 : (t296 : Int) ≤ ((ji3) : Int) := of_decide_eq_true (by first | (with_reducible assumption) | assumption); have q037 : (0 : Int) ≤ (t296 : Int) := of_decide_eq_true (by first | (with_reducible assumption) | assumption); have hcut37 := cut_mid (P := Try.prog) 56 81 .i64 .i64 Try.underlying56 hi037 2 hsz37 (some ad287) l0.length c0 t296 (ji3) q037 ql37 q37 hroom37; have hr37 := Kd.C_mid (lo := (t296 : Int).toNat) (hi := ((ji3) : Int).toNat) (c := c0) hC37 (by omega) (by omega) hroom37; obtain ⟨A37, hA37⟩ : ∃ A1, A1 = (if c0 = (t296 : Int).toNat then (some ad287) else ((some ad287) : Option Addr).map (·.add ((t296 : Int).toNat * 2))) := ⟨_, rfl⟩; obtain ⟨c37, hc37⟩ : ∃ c1, c1 = c0 - (t296 : Int).toNat := ⟨_, rfl⟩; have hy37 : y302.length = ((ji3) : Int).toNat - (t296 : Int).toNat := (by rw [Ny302.out, List.length_drop, List.length_take] <;> omega); rw [show ((l0).take ((ji3) : Int).toNat).drop (t296 : Int).toNat = y302 from Ny302.out.symm] at hr37; replace hr37 : Kd.C k81 _ A37 y302.length y302 := (by rw [hA37]; exact hr37); rw [← hy37, ← hA37, ← hc37] at hcut37; have HR305 := Aside0.mk hr37; have HC305 := Aside0.mk (show y302.length ≤ c37 from by rw [hy37, hc37]; exact Nat.sub_le_sub_right (Nat.le_trans (by omega) hroom37) _); clear hr37 hC37 hroom37 hi037 hsz37 hc37; have KY37 := Aside0.mk hy37; have KA37 := Aside0.mk hA37; clear hy37 hA37; replace q37 := eq_true q37) | (go_at_call 111; (with_reducible refine (ih k (by omega) _ _ y302 a1 t306 _ ?side1 ?side2 A23.out).mono ?_); (case side1 => repeat (first | exact HR305.out | (with_reducible refine Kd.C_alloc ?_ _) | (with_reducible refine Kd.C_drewN ?_ _) | (with_reducible refine Kd.C_drew ?_))); (case side2 => exact HC305.out); rintro e w' ⟨rfl, ⟨nd, rfl⟩⟩; (try first | exact ⟨rfl, _, World.drewN_drewN _ _ _⟩ | exact ⟨rfl, _, Eq.trans (World.drewN_drewN _ _ _) (congrArg (World.drewN _) (Nat.add_assoc _ _ _))⟩); have p307 : 0 ≤ ((ji3) : Int) := of_decide_eq_true (by first | (with_reducible assumption) | assumption); have q307 : (ji3) < (l0.length : Int) := of_decide_eq_true (by first | (with_reducible assumption) | assumption); obtain ⟨ad307, e307, hx307_0, hx307_1⟩ := at_T81 HR0.out (ji3) p307 q307; obtain rfl : ad287 = ad307 := (by injection e307); replace p307 := eq_true p307; replace q307 := eq_true q307)))
            go_ret
            exact ⟨by first | rfl | (simp; done) | (simp only [← hji3] <;> (first | rfl | simp)) | (simp [*]; done), by repeat (first | exact Drawn0.refl _ | apply Drawn0.step)⟩
         ·rw [if_neg c22] at H
          exact absurd H (by simp)
        ·rw [if_neg c21] at H
         exact absurd H (by simp)
       ·rw [if_neg c18] at H
        exact absurd H (by simp)
      ·rw [if_neg c17] at H
       exact absurd H (by simp)
  ·rw [if_neg c5] at H
   exact absurd H (by simp)
 ·rw [if_neg c4] at H
  exact absurd H (by simp)

/-! ### spec_l4May: function 101 -/
def spec_l4May.f (k : Nat) (a0_0 : Int) (l0_1 : List (S81)) (a1 : Int) : Option (Bool) := if 0 ≤ a0_0 then ((spec_l3Holds.f k l0_1 a1).bind fun t309 => (some (((Int.tmod (shr .i64 a1 a0_0) 2) == 1) == t309))) else (none)
theorem spec_l4May.mono : ∀ a0 a1 a2 k, LeO (spec_l4May.f k a0 a1 a2) (spec_l4May.f (k + 1) a0 a1 a2) := by
 intro a0 a1 a2 k
 unfold spec_l4May.f
 repeat' first
   | (with_reducible exact spec_l3Holds.mono _ _ _)
   | (with_reducible exact LeO.refl _)
   | (with_reducible exact LeO.none _)
   | (with_reducible refine LeO.ite ?_ ?_)
   | (with_reducible refine LeO.bind ?_ (fun _ => ?_))
   | exact spec_l3Holds.mono _ _ _
   | exact LeO.none _
   | refine LeO.ite ?_ ?_
   | refine LeO.bind ?_ (fun _ => ?_)
set_option maxHeartbeats 8000000 in
set_option maxRecDepth 100000 in
theorem spec_l4May.calls (k : Nat) (a0_0 : Int) (A0_1 : Option Addr) (c0_1 : Nat) (l0_1 : List (S81)) (a1 : Int) (r : Bool) (w : World) (hr0_1 : Kd.C k81 w A0_1 l0_1.length l0_1) (hc0_1 : l0_1.length ≤ c0_1) (h : spec_l4May.f k a0_0 l0_1 a1 = some r) :
  Calls Try.prog 101 #[.agg #[.int .i64 a0_0, .slice A0_1 l0_1.length c0_1], .int .i64 a1] w fun e w' => e = .returned (.bool r) ∧ Below w.heap.size w w' := by
 have hu83 := Try.underlying83
 have HR0_1 := Aside0.mk hr0_1
 have HC0_1 := Aside0.mk hc0_1
 clear hr0_1 hc0_1
 have HB := Aside0.mk (Below.refl w.heap.size w)
 have H : (if 0 ≤ a0_0 then ((spec_l3Holds.f k l0_1 a1).bind fun t309 => (some (((Int.tmod (shr .i64 a1 a0_0) 2) == 1) == t309))) else (none)) = some r := h
 clear h
 by_cases c3 : 0 ≤ a0_0
 ·rw [if_pos c3] at H
  have c3b0 := eq_true c3
  have c3b1 : decide (0 ≤ a0_0) = true := decide_eq_true c3
  clear c3
  obtain ⟨ji4, hji4⟩ : ∃ j_ : Int, (shr .i64 a1 a0_0) = j_ := ⟨_, rfl⟩
  replace H : ((spec_l3Holds.f k l0_1 a1).bind fun t309 => (some (((Int.tmod (ji4) 2) == 1) == t309))) = some r := by first | (rw [hji4] at H; exact H) | (simp only [hji4] at H ⊢; exact H)
  have hji4_ : (a1 / 2 ^ min a0_0.toNat 64) = ji4 := hji4
  have hji4z : a0_0 ≤ 64 → (a1 / 2 ^ a0_0.toNat) = ji4 := shr_small hji4
  replace H := Option.bind_eq_some_iff.mp H
  obtain ⟨t309, A50, H⟩ := H
  replace H : (some (((Int.tmod (ji4) 2) == 1) == t309)) = some r := H
  have A5 := Aside0.mk A50
  clear A50
  obtain rfl := Option.some.inj H
  go_enter Try.func101, Try.ntmps101
  go_wp2_with (first | ((with_reducible refine gate_dst (N := 2) rfl ?_); refine box_event ?hg (N := 2) ?hd (cs := #[.int .i64 a0_0, .slice A0_1 l0_1.length c0_1]) (t := 83) ?hr ?_; (case hd => rfl); (case hg => rfl); (case hr => first | (go_simp; done) | (go_simp; rfl)); intro gb308 hg w6 hbox hb; have n0_ := Aside0.mk (below_step (by repeat (first | (with_reducible first | exact HB.out | apply below_alloc | apply pw_below_drewN | apply below_drew1) | exact HB.out)) hb); have n1_ := Aside0.mk (hbox); have n2_ := Aside0.mk ((by rw [hg]; exact (below_size (by repeat (first | (with_reducible first | exact HB.out | apply below_alloc | apply pw_below_drewN | apply below_drew1) | exact HB.out))) : w.heap.size ≤ gb308)); have n3_ := Aside0.mk ((by rw [hg]; exact (below_size (by repeat (first | (with_reducible first | exact HB.out | apply below_alloc | apply pw_below_drewN | apply below_drew1) | exact HB.out))) : w.heap.size ≤ gb308)); clear HB; have HB := n0_; have BK308 := n1_; have GW308 := n2_; have GE308 := n3_; clear n0_ n1_ n2_ n3_; clear hb hbox hg; have hcz7_0 : w6.cell? ⟨gb308, 0, none⟩ = some (.int .i64 a0_0) := (blk_cell BK308.out 0).trans rfl; have hcz7_1 : w6.cell? ⟨gb308, 1, none⟩ = some (.slice A0_1 l0_1.length c0_1) := (blk_cell BK308.out 1).trans rfl; have hfz7_0 := blk_frozen BK308.out 0; have hfz7_1 := blk_frozen BK308.out 1) | (go_at_call 111; (with_reducible refine (spec_l3Holds.calls k _ _ l0_1 a1 t309 _ ?side1 ?side2 A5.out).mono ?_); (case side1 => repeat (first | exact (Kd.C_below HR0_1.out HB.out) | (with_reducible refine Kd.C_alloc ?_ _) | (with_reducible refine Kd.C_drewN ?_ _) | (with_reducible refine Kd.C_drew ?_))); (case side2 => exact HC0_1.out); rintro e w' ⟨rfl, ⟨nd, rfl⟩⟩; (try first | exact ⟨rfl, _, World.drewN_drewN _ _ _⟩ | exact ⟨rfl, _, Eq.trans (World.drewN_drewN _ _ _) (congrArg (World.drewN _) (Nat.add_assoc _ _ _))⟩)))
  repeat (go_quiet (first | ((with_reducible refine gate_dst (N := 2) rfl ?_); refine box_event ?hg (N := 2) ?hd (cs := #[.int .i64 a0_0, .slice A0_1 l0_1.length c0_1]) (t := 83) ?hr ?_; (case hd => rfl); (case hg => rfl); (case hr => first | (go_simp; done) | (go_simp; rfl)); intro gb308 hg w6 hbox hb; have n0_ := Aside0.mk (below_step (by repeat (first | (with_reducible first | exact HB.out | apply below_alloc | apply pw_below_drewN | apply below_drew1) | exact HB.out)) hb); have n1_ := Aside0.mk (hbox); have n2_ := Aside0.mk ((by rw [hg]; exact (below_size (by repeat (first | (with_reducible first | exact HB.out | apply below_alloc | apply pw_below_drewN | apply below_drew1) | exact HB.out))) : w.heap.size ≤ gb308)); have n3_ := Aside0.mk ((by rw [hg]; exact (below_size (by repeat (first | (with_reducible first | exact HB.out | apply below_alloc | apply pw_below_drewN | apply below_drew1) | exact HB.out))) : w.heap.size ≤ gb308)); clear HB; have HB := n0_; have BK308 := n1_; have GW308 := n2_; have GE308 := n3_; clear n0_ n1_ n2_ n3_; clear hb hbox hg; have hcz7_0 : w6.cell? ⟨gb308, 0, none⟩ = some (.int .i64 a0_0) := (blk_cell BK308.out 0).trans rfl; have hcz7_1 : w6.cell? ⟨gb308, 1, none⟩ = some (.slice A0_1 l0_1.length c0_1) := (blk_cell BK308.out 1).trans rfl; have hfz7_0 := blk_frozen BK308.out 0; have hfz7_1 := blk_frozen BK308.out 1) | (go_at_call 111; (with_reducible refine (spec_l3Holds.calls k _ _ l0_1 a1 t309 _ ?side1 ?side2 A5.out).mono ?_); (case side1 => repeat (first | exact (Kd.C_below HR0_1.out HB.out) | (with_reducible refine Kd.C_alloc ?_ _) | (with_reducible refine Kd.C_drewN ?_ _) | (with_reducible refine Kd.C_drew ?_))); (case side2 => exact HC0_1.out); rintro e w' ⟨rfl, ⟨nd, rfl⟩⟩; (try first | exact ⟨rfl, _, World.drewN_drewN _ _ _⟩ | exact ⟨rfl, _, Eq.trans (World.drewN_drewN _ _ _) (congrArg (World.drewN _) (Nat.add_assoc _ _ _))⟩))); try go_wp2_with (first | ((with_reducible refine gate_dst (N := 2) rfl ?_); refine box_event ?hg (N := 2) ?hd (cs := #[.int .i64 a0_0, .slice A0_1 l0_1.length c0_1]) (t := 83) ?hr ?_; (case hd => rfl); (case hg => rfl); (case hr => first | (go_simp; done) | (go_simp; rfl)); intro gb308 hg w6 hbox hb; have n0_ := Aside0.mk (below_step (by repeat (first | (with_reducible first | exact HB.out | apply below_alloc | apply pw_below_drewN | apply below_drew1) | exact HB.out)) hb); have n1_ := Aside0.mk (hbox); have n2_ := Aside0.mk ((by rw [hg]; exact (below_size (by repeat (first | (with_reducible first | exact HB.out | apply below_alloc | apply pw_below_drewN | apply below_drew1) | exact HB.out))) : w.heap.size ≤ gb308)); have n3_ := Aside0.mk ((by rw [hg]; exact (below_size (by repeat (first | (with_reducible first | exact HB.out | apply below_alloc | apply pw_below_drewN | apply below_drew1) | exact HB.out))) : w.heap.size ≤ gb308)); clear HB; have HB := n0_; have BK308 := n1_; have GW308 := n2_; have GE308 := n3_; clear n0_ n1_ n2_ n3_; clear hb hbox hg; have hcz7_0 : w6.cell? ⟨gb308, 0, none⟩ = some (.int .i64 a0_0) := (blk_cell BK308.out 0).trans rfl; have hcz7_1 : w6.cell? ⟨gb308, 1, none⟩ = some (.slice A0_1 l0_1.length c0_1) := (blk_cell BK308.out 1).trans rfl; have hfz7_0 := blk_frozen BK308.out 0; have hfz7_1 := blk_frozen BK308.out 1) | (go_at_call 111; (with_reducible refine (spec_l3Holds.calls k _ _ l0_1 a1 t309 _ ?side1 ?side2 A5.out).mono ?_); (case side1 => repeat (first | exact (Kd.C_below HR0_1.out HB.out) | (with_reducible refine Kd.C_alloc ?_ _) | (with_reducible refine Kd.C_drewN ?_ _) | (with_reducible refine Kd.C_drew ?_))); (case side2 => exact HC0_1.out); rintro e w' ⟨rfl, ⟨nd, rfl⟩⟩; (try first | exact ⟨rfl, _, World.drewN_drewN _ _ _⟩ | exact ⟨rfl, _, Eq.trans (World.drewN_drewN _ _ _) (congrArg (World.drewN _) (Nat.add_assoc _ _ _))⟩))))
  go_ret
  exact ⟨by first | rfl | (simp [errW_none, errW_some] <;> rfl) | (simp only [← hji4]; first | rfl | (simp [errW_none, errW_some] <;> rfl)) | (simp [*, errW_none, errW_some] <;> rfl), by repeat (first | (with_reducible first | exact HB.out | apply below_alloc | apply pw_below_drewN | apply below_drew1 | refine below_set ?_ GE308.out) | exact HB.out)⟩
 ·rw [if_neg c3] at H
  exact absurd H (by simp)

/-! ### spec_l4Table: function 110 -/
def spec_l4Table.l0 : Nat → Int → Int → Int → Int → List (S81) → Option (Int)
 | 0, _, _, _, _, _ => none
 | k + 1, x0, x5, x6, x311000, x311001 => if 0 ≤ x0 then (if x6 < (shl .i64 1 x0) then ((spec_l4May.f k x311000 x311001 x6).bind fun t311 => (if t311 = true then (if 0 ≤ x6 then (spec_l4Table.l0 k x0 (Go.bits .or .i64 x5 (shl .i64 1 x6)) (wrap64 (x6 + 1)) x311000 x311001) else (none)) else (spec_l4Table.l0 k x0 x5 (wrap64 (x6 + 1)) x311000 x311001))) else (some x5)) else (none)
def spec_l4Table.f (k : Nat) (a0 : Int) (a1_0 : Int) (l1_1 : List (S81)) : Option (Int) := spec_l4Table.l0 k a0 0 0 a1_0 l1_1
theorem spec_l4Table.mono_l : ∀ k, (∀ y0 y1 y2 y3 y4, LeO (spec_l4Table.l0 k y0 y1 y2 y3 y4) (spec_l4Table.l0 (k + 1) y0 y1 y2 y3 y4))
 | 0 => fun _ _ _ _ _ r h => by simp [spec_l4Table.l0] at h
 | k + 1 => by
  have ih0 := spec_l4Table.mono_l k
  ·intro y0 y1 y2 y3 y4
   unfold spec_l4Table.l0
   repeat' first
   | (with_reducible exact ih0 _ _ _ _ _)
   | (with_reducible exact spec_l4May.mono _ _ _ _)
   | (with_reducible exact LeO.refl _)
   | (with_reducible exact LeO.none _)
   | (with_reducible refine LeO.ite ?_ ?_)
   | (with_reducible refine LeO.bind ?_ (fun _ => ?_))
   | exact ih0 _ _ _ _ _
   | exact spec_l4May.mono _ _ _ _
   | exact LeO.none _
   | refine LeO.ite ?_ ?_
   | refine LeO.bind ?_ (fun _ => ?_)
theorem spec_l4Table.mono : ∀ a0 a1 a2 k, LeO (spec_l4Table.f k a0 a1 a2) (spec_l4Table.f (k + 1) a0 a1 a2) := by
 intro a0 a1 a2 k
 have ih0 := spec_l4Table.mono_l k
 unfold spec_l4Table.f
 repeat' first
   | (with_reducible exact ih0 _ _ _ _ _)
   | (with_reducible exact spec_l4May.mono _ _ _ _)
   | (with_reducible exact LeO.refl _)
   | (with_reducible exact LeO.none _)
   | (with_reducible refine LeO.ite ?_ ?_)
   | (with_reducible refine LeO.bind ?_ (fun _ => ?_))
   | exact ih0 _ _ _ _ _
   | exact spec_l4May.mono _ _ _ _
   | exact LeO.none _
   | refine LeO.ite ?_ ?_
   | refine LeO.bind ?_ (fun _ => ?_)
set_option maxHeartbeats 8000000 in
set_option maxRecDepth 100000 in
theorem spec_l4Table.calls (k : Nat) (a0 : Int) (a1_0 : Int) (A1_1 : Option Addr) (c1_1 : Nat) (l1_1 : List (S81)) (r : Int) (w : World) (hr1_1 : Kd.C k81 w A1_1 l1_1.length l1_1) (hc1_1 : l1_1.length ≤ c1_1) (h : spec_l4Table.f k a0 a1_0 l1_1 = some r) :
  Calls Try.prog 110 #[.int .i64 a0, .agg #[.int .i64 a1_0, .slice A1_1 l1_1.length c1_1]] w fun e w' => e = .returned (.int .i64 r) ∧ Below w.heap.size w w' := by
 have hu83 := Try.underlying83
 have HR1_1 := Aside0.mk hr1_1
 have HC1_1 := Aside0.mk hc1_1
 clear hr1_1 hc1_1
 have HB := Aside0.mk (Below.refl w.heap.size w)
 have H : (spec_l4Table.l0 k a0 0 0 a1_0 l1_1) = some r := h
 clear h
 have H' := Aside0.mk H
 clear H
 go_enter Try.func110, Try.ntmps110
 go_wp2_with (first | ((with_reducible refine gate_dst (N := 3) rfl ?_); refine box_event ?hg (N := 3) ?hd (cs := #[.int .i64 a1_0, .slice A1_1 l1_1.length c1_1]) (t := 83) ?hr ?_; (case hd => rfl); (case hg => rfl); (case hr => first | (go_simp; done) | (go_simp; rfl)); intro gb310 hg w3 hbox hb; have n0_ := Aside0.mk (below_step (by repeat (first | (with_reducible first | exact HB.out | apply below_alloc | apply pw_below_drewN | apply below_drew1) | exact HB.out)) hb); have n1_ := Aside0.mk (hbox); have n2_ := Aside0.mk ((by rw [hg]; exact (below_size (by repeat (first | (with_reducible first | exact HB.out | apply below_alloc | apply pw_below_drewN | apply below_drew1) | exact HB.out))) : w.heap.size ≤ gb310)); have n3_ := Aside0.mk ((by rw [hg]; exact (below_size (by repeat (first | (with_reducible first | exact HB.out | apply below_alloc | apply pw_below_drewN | apply below_drew1) | exact HB.out))) : w.heap.size ≤ gb310)); clear HB; have HB := n0_; have BK310 := n1_; have GW310 := n2_; have GE310 := n3_; clear n0_ n1_ n2_ n3_; clear hb hbox hg))
 go_loopg [5, 6] k (fun kq v5 v6 w' => ∃ (x5_1 : Int) (x6_1 : Int), v5 = .int .i64 x5_1 ∧ v6 = .int .i64 x6_1 ∧ Aside0 (spec_l4Table.l0 kq a0 x5_1 x6_1 a1_0 l1_1 = some r) ∧ Aside0 (kq ≤ k) ∧ Aside0 (w'.heap[gb310]? = some (.cells #[.int .i64 a1_0, (.slice A1_1 l1_1.length c1_1)] 83 (0, 0))) ∧ Aside0 (Below w.heap.size w w'))
 case atStart => exact ⟨(0), (0), (by first | rfl | (simp; done) | (simp [*]; done)), (by first | rfl | (simp; done) | (simp [*]; done)), H', ⟨Nat.le_refl _⟩, ⟨by (with_reducible repeat (first | refine blk_drewN ?_ _ | refine blk_drew ?_ | refine blk_alloc ?_ _)); exact BK310.out⟩, ⟨by repeat (first | (with_reducible first | exact HB.out | apply below_alloc | apply pw_below_drewN | apply below_drew1 | refine below_set ?_ GE310.out) | exact HB.out)⟩⟩
 case round =>
  clear H'
  try clear c1
  try clear p2
  obtain ⟨x5_1, x6_1, rfl, rfl, HA, HK1, BK310, HB⟩ := hrel
  cases gk with
  | zero => exact absurd HA.out (by simp [spec_l4Table.l0])
  | succ k1 =>
   have H := HA.out
   clear HA
   simp only [spec_l4Table.l0] at H
   by_cases c4 : 0 ≤ a0
   ·rw [if_pos c4] at H
    have c4b0 := eq_true c4
    have c4b1 : decide (0 ≤ a0) = true := decide_eq_true c4
    clear c4
    obtain ⟨ji5, hji5⟩ : ∃ j_ : Int, (shl .i64 1 a0) = j_ := ⟨_, rfl⟩
    replace H : (if x6_1 < (ji5) then ((spec_l4May.f k1 a1_0 l1_1 x6_1).bind fun t311 => (if t311 = true then (if 0 ≤ x6_1 then (spec_l4Table.l0 k1 a0 (Go.bits .or .i64 x5_1 (shl .i64 1 x6_1)) (wrap64 (x6_1 + 1)) a1_0 l1_1) else (none)) else (spec_l4Table.l0 k1 a0 x5_1 (wrap64 (x6_1 + 1)) a1_0 l1_1))) else (some x5_1)) = some r := by first | (rw [hji5] at H; exact H) | (simp only [hji5] at H ⊢; exact H)
    have hji5_ : (IntKind.i64.wrap (1 * 2 ^ min a0.toNat 64)) = ji5 := hji5
    have hji5z : a0 ≤ 64 → (IntKind.i64.wrap (1 * 2 ^ a0.toNat)) = ji5 := shl_small hji5
    have hji5u : (IntKind.i64.wrap (2 ^ min a0.toNat 64)) = ji5 := by have h_ := hji5_; rw [Int.one_mul] at h_; exact h_
    have hji5v : a0 ≤ 64 → (IntKind.i64.wrap (2 ^ a0.toNat)) = ji5 := fun hle_ => by have h_ := hji5z hle_; rw [Int.one_mul] at h_; exact h_
    have hji5y : (wrap64 (1 * 2 ^ min a0.toNat 64)) = ji5 := (i64_w _).symm.trans hji5_
    have hji5x : a0 ≤ 64 → (wrap64 (1 * 2 ^ a0.toNat)) = ji5 := fun h_ => (i64_w _).symm.trans (hji5z h_)
    by_cases c6 : x6_1 < (ji5)
    ·rw [if_pos c6] at H
     have c6b0 : decide (x6_1 < (ji5)) = true := decide_eq_true c6
     clear c6
     replace H := Option.bind_eq_some_iff.mp H
     obtain ⟨t311, A70, H⟩ := H
     replace H : (if t311 = true then (if 0 ≤ x6_1 then (spec_l4Table.l0 k1 a0 (Go.bits .or .i64 x5_1 (shl .i64 1 x6_1)) (wrap64 (x6_1 + 1)) a1_0 l1_1) else (none)) else (spec_l4Table.l0 k1 a0 x5_1 (wrap64 (x6_1 + 1)) a1_0 l1_1)) = some r := H
     have A7 := Aside0.mk A70
     clear A70
     by_cases c8 : t311 = true
     ·subst c8
      have H1 : (if 0 ≤ x6_1 then (spec_l4Table.l0 k1 a0 (Go.bits .or .i64 x5_1 (shl .i64 1 x6_1)) (wrap64 (x6_1 + 1)) a1_0 l1_1) else (none)) = some r := by rw [if_pos rfl] at H; exact H
      clear H
      have H := H1
      clear H1
      by_cases c9 : 0 ≤ x6_1
      ·rw [if_pos c9] at H
       have c9b0 := eq_true c9
       have c9b1 : decide (0 ≤ x6_1) = true := decide_eq_true c9
       clear c9
       obtain ⟨ji10, hji10⟩ : ∃ j_ : Int, (shl .i64 1 x6_1) = j_ := ⟨_, rfl⟩
       replace H : (spec_l4Table.l0 k1 a0 (Go.bits .or .i64 x5_1 (ji10)) (wrap64 (x6_1 + 1)) a1_0 l1_1) = some r := by first | (rw [hji10] at H; exact H) | (simp only [hji10] at H ⊢; exact H)
       (try rw [hji10] at A7)
       have hji10_ : (IntKind.i64.wrap (1 * 2 ^ min x6_1.toNat 64)) = ji10 := hji10
       have hji10z : x6_1 ≤ 64 → (IntKind.i64.wrap (1 * 2 ^ x6_1.toNat)) = ji10 := shl_small hji10
       have hji10u : (IntKind.i64.wrap (2 ^ min x6_1.toNat 64)) = ji10 := by have h_ := hji10_; rw [Int.one_mul] at h_; exact h_
       have hji10v : x6_1 ≤ 64 → (IntKind.i64.wrap (2 ^ x6_1.toNat)) = ji10 := fun hle_ => by have h_ := hji10z hle_; rw [Int.one_mul] at h_; exact h_
       have hji10y : (wrap64 (1 * 2 ^ min x6_1.toNat 64)) = ji10 := (i64_w _).symm.trans hji10_
       have hji10x : x6_1 ≤ 64 → (wrap64 (1 * 2 ^ x6_1.toNat)) = ji10 := fun h_ => (i64_w _).symm.trans (hji10z h_)
       have H' := Aside0.mk H
       clear H
       have hcz11_0 : wr.cell? ⟨gb310, 0, none⟩ = some (.int .i64 a1_0) := (blk_cell BK310.out 0).trans rfl
       have hcz11_1 : wr.cell? ⟨gb310, 1, none⟩ = some (.slice A1_1 l1_1.length c1_1) := (blk_cell BK310.out 1).trans rfl
       have hfz11_0 := blk_frozen BK310.out 0
       have hfz11_1 := blk_frozen BK310.out 1
       go_wp2_with (first | ((with_reducible refine gate_callee (f := 101) rfl ?_); refine goesL_ (some 15) rfl rfl Try.func101 (by kernel_rfl) rfl #[.agg #[.int .i64 a1_0, .slice A1_1 l1_1.length c1_1], .int .i64 x6_1] rfl (by (try simp only [List.map_toArray, List.map_cons, List.map_nil]); first | done | rfl | (simp only [List.length_drop, List.length_take]; rfl)) ?_; (with_reducible refine (spec_l4May.calls k1 a1_0 _ _ l1_1 x6_1 true _ ?side1 ?side2 A7.out).mono ?_); (case side1 => repeat (first | exact (Kd.C_below HR1_1.out HB.out) | (with_reducible refine Kd.C_alloc ?_ _) | (with_reducible refine Kd.C_drewN ?_ _) | (with_reducible refine Kd.C_drew ?_))); (case side2 => exact HC1_1.out); rintro e w12 ⟨rfl, hb⟩; refine ⟨_, rfl, ?_⟩; have n0_ := Aside0.mk (blk_below (g := gb310) (o := .cells #[.int .i64 a1_0, .slice A1_1 l1_1.length c1_1] 83 (0, 0)) (by (with_reducible repeat (first | refine blk_drewN ?_ _ | refine blk_drew ?_ | refine blk_alloc ?_ _)); exact BK310.out) hb); have n1_ := Aside0.mk (below_step (by repeat (first | (with_reducible first | exact HB.out | apply below_alloc | apply pw_below_drewN | apply below_drew1 | refine below_set ?_ GE310.out) | exact HB.out)) hb); clear BK310; clear HB; have BK310 := n0_; have HB := n1_; clear n0_ n1_; (try clear hb); (try clear hb2); (try clear hk); (try clear hi)))
       go_roundg k1
       case measure => have := HK1.out; omega
       case rel => exact ⟨(Go.bits .or .i64 x5_1 (ji10)), (wrap64 (x6_1 + 1)), (by first | rfl | (simp; done) | (simp only [← hji10] <;> (first | rfl | simp)) | (simp [*]; done)), (by first | rfl | (simp; done) | (simp [*]; done)), H', ⟨by have := HK1.out; omega⟩, ⟨by (with_reducible repeat (first | refine blk_drewN ?_ _ | refine blk_drew ?_ | refine blk_alloc ?_ _)); exact BK310.out⟩, ⟨by repeat (first | (with_reducible first | exact HB.out | apply below_alloc | apply pw_below_drewN | apply below_drew1 | refine below_set ?_ GE310.out) | exact HB.out)⟩⟩
      ·rw [if_neg c9] at H
       exact absurd H (by simp)
     ·replace c8 := Bool.eq_false_iff.mpr c8
      subst c8
      have H1 : (spec_l4Table.l0 k1 a0 x5_1 (wrap64 (x6_1 + 1)) a1_0 l1_1) = some r := by rw [if_neg (show ¬ (false = true) by decide)] at H; exact H
      clear H
      have H := H1
      clear H1
      have H' := Aside0.mk H
      clear H
      have hcz13_0 : wr.cell? ⟨gb310, 0, none⟩ = some (.int .i64 a1_0) := (blk_cell BK310.out 0).trans rfl
      have hcz13_1 : wr.cell? ⟨gb310, 1, none⟩ = some (.slice A1_1 l1_1.length c1_1) := (blk_cell BK310.out 1).trans rfl
      have hfz13_0 := blk_frozen BK310.out 0
      have hfz13_1 := blk_frozen BK310.out 1
      go_wp2_with (first | ((with_reducible refine gate_callee (f := 101) rfl ?_); refine goesL_ (some 15) rfl rfl Try.func101 (by kernel_rfl) rfl #[.agg #[.int .i64 a1_0, .slice A1_1 l1_1.length c1_1], .int .i64 x6_1] rfl (by (try simp only [List.map_toArray, List.map_cons, List.map_nil]); first | done | rfl | (simp only [List.length_drop, List.length_take]; rfl)) ?_; (with_reducible refine (spec_l4May.calls k1 a1_0 _ _ l1_1 x6_1 false _ ?side1 ?side2 A7.out).mono ?_); (case side1 => repeat (first | exact (Kd.C_below HR1_1.out HB.out) | (with_reducible refine Kd.C_alloc ?_ _) | (with_reducible refine Kd.C_drewN ?_ _) | (with_reducible refine Kd.C_drew ?_))); (case side2 => exact HC1_1.out); rintro e w14 ⟨rfl, hb⟩; refine ⟨_, rfl, ?_⟩; have n0_ := Aside0.mk (blk_below (g := gb310) (o := .cells #[.int .i64 a1_0, .slice A1_1 l1_1.length c1_1] 83 (0, 0)) (by (with_reducible repeat (first | refine blk_drewN ?_ _ | refine blk_drew ?_ | refine blk_alloc ?_ _)); exact BK310.out) hb); have n1_ := Aside0.mk (below_step (by repeat (first | (with_reducible first | exact HB.out | apply below_alloc | apply pw_below_drewN | apply below_drew1 | refine below_set ?_ GE310.out) | exact HB.out)) hb); clear BK310; clear HB; have BK310 := n0_; have HB := n1_; clear n0_ n1_; (try clear hb); (try clear hb2); (try clear hk); (try clear hi)))
      go_roundg k1
      case measure => have := HK1.out; omega
      case rel => exact ⟨(x5_1), (wrap64 (x6_1 + 1)), (by first | rfl | (simp; done) | (simp [*]; done)), (by first | rfl | (simp; done) | (simp [*]; done)), H', ⟨by have := HK1.out; omega⟩, ⟨by (with_reducible repeat (first | refine blk_drewN ?_ _ | refine blk_drew ?_ | refine blk_alloc ?_ _)); exact BK310.out⟩, ⟨by repeat (first | (with_reducible first | exact HB.out | apply below_alloc | apply pw_below_drewN | apply below_drew1 | refine below_set ?_ GE310.out) | exact HB.out)⟩⟩
    ·rw [if_neg c6] at H
     have c6b0 : decide (x6_1 < (ji5)) = false := decide_eq_false c6
     clear c6
     obtain rfl := Option.some.inj H
     go_wp2
     go_ret
     exact ⟨by first | rfl | (simp [errW_none, errW_some] <;> rfl) | (simp only [← hji5]; first | rfl | (simp [errW_none, errW_some] <;> rfl)) | (simp [*, errW_none, errW_some] <;> rfl), by repeat (first | (with_reducible first | exact HB.out | apply below_alloc | apply pw_below_drewN | apply below_drew1 | refine below_set ?_ GE310.out) | exact HB.out)⟩
   ·rw [if_neg c4] at H
    exact absurd H (by simp)

/-! ### spec_l4Story: function 84 -/
def spec_l4Story.l0 : Nat → Int → List (S83) → Int → Int → Option (Int)
 | 0, _, _, _, _ => none
 | k + 1, x0, x1, x5, x6 => if x6 < (x1.length : Int) then (if 0 ≤ x6 then ((spec_l4Table.f k x0 ((rd_T83 x1 x6).f0) ((rd_T83 x1 x6).f1)).bind fun t313 => (spec_l4Story.l0 k x0 x1 (Go.bits .and .i64 x5 t313) (wrap64 (x6 + 1)))) else (none)) else (some x5)
def spec_l4Story.f (k : Nat) (a0 : Int) (l1 : List (S83)) : Option (Int) := if 0 ≤ a0 then (spec_l4Story.l0 k a0 l1 (wrap64 ((shl .i64 1 (shl .u64 1 a0)) - 1)) 0) else (none)
theorem spec_l4Story.mono_l : ∀ k, (∀ y0 y1 y2 y3, LeO (spec_l4Story.l0 k y0 y1 y2 y3) (spec_l4Story.l0 (k + 1) y0 y1 y2 y3))
 | 0 => fun _ _ _ _ r h => by simp [spec_l4Story.l0] at h
 | k + 1 => by
  have ih0 := spec_l4Story.mono_l k
  ·intro y0 y1 y2 y3
   unfold spec_l4Story.l0
   repeat' first
   | (with_reducible exact ih0 _ _ _ _)
   | (with_reducible exact spec_l4Table.mono _ _ _ _)
   | (with_reducible exact LeO.refl _)
   | (with_reducible exact LeO.none _)
   | (with_reducible refine LeO.ite ?_ ?_)
   | (with_reducible refine LeO.bind ?_ (fun _ => ?_))
   | exact ih0 _ _ _ _
   | exact spec_l4Table.mono _ _ _ _
   | exact LeO.none _
   | refine LeO.ite ?_ ?_
   | refine LeO.bind ?_ (fun _ => ?_)
theorem spec_l4Story.mono : ∀ a0 a1 k, LeO (spec_l4Story.f k a0 a1) (spec_l4Story.f (k + 1) a0 a1) := by
 intro a0 a1 k
 have ih0 := spec_l4Story.mono_l k
 unfold spec_l4Story.f
 repeat' first
   | (with_reducible exact ih0 _ _ _ _)
   | (with_reducible exact spec_l4Table.mono _ _ _ _)
   | (with_reducible exact LeO.refl _)
   | (with_reducible exact LeO.none _)
   | (with_reducible refine LeO.ite ?_ ?_)
   | (with_reducible refine LeO.bind ?_ (fun _ => ?_))
   | exact ih0 _ _ _ _
   | exact spec_l4Table.mono _ _ _ _
   | exact LeO.none _
   | refine LeO.ite ?_ ?_
   | refine LeO.bind ?_ (fun _ => ?_)
set_option maxHeartbeats 8000000 in
set_option maxRecDepth 100000 in
theorem spec_l4Story.calls (k : Nat) (a0 : Int) (A1 : Option Addr) (c1 : Nat) (l1 : List (S83)) (r : Int) (w : World) (hr1 : Kd.C k83 w A1 l1.length l1) (hc1 : l1.length ≤ c1) (h : spec_l4Story.f k a0 l1 = some r) :
  Calls Try.prog 84 #[.int .i64 a0, .slice A1 l1.length c1] w fun e w' => e = .returned (.int .i64 r) ∧ Below w.heap.size w w' := by
 have hu83 := Try.underlying83
 have HR1 := Aside0.mk hr1
 have HC1 := Aside0.mk hc1
 clear hr1 hc1
 have HB := Aside0.mk (Below.refl w.heap.size w)
 have H : (if 0 ≤ a0 then (spec_l4Story.l0 k a0 l1 (wrap64 ((shl .i64 1 (shl .u64 1 a0)) - 1)) 0) else (none)) = some r := h
 clear h
 by_cases c3 : 0 ≤ a0
 ·rw [if_pos c3] at H
  have c3b0 := eq_true c3
  have c3b1 : decide (0 ≤ a0) = true := decide_eq_true c3
  clear c3
  obtain ⟨ji4, hji4⟩ : ∃ j_ : Int, (shl .u64 1 a0) = j_ := ⟨_, rfl⟩
  replace H : (spec_l4Story.l0 k a0 l1 (wrap64 ((shl .i64 1 (ji4)) - 1)) 0) = some r := by first | (rw [hji4] at H; exact H) | (simp only [hji4] at H ⊢; exact H)
  have hji4n : 0 ≤ ji4 := by rw [← hji4]; unfold shl; generalize (1 : Int) * 2 ^ min a0.toNat (IntKind.bits .u64) = q_; simp [IntKind.wrap, IntKind.bits, IntKind.signed]; omega
  have hji4e := eq_true hji4n
  have hji4f : decide (ji4 < 0) = false := decide_eq_false (Int.not_lt.mpr hji4n)
  clear hji4n
  have hji4_ : (IntKind.u64.wrap (1 * 2 ^ min a0.toNat 64)) = ji4 := hji4
  have hji4z : a0 ≤ 64 → (IntKind.u64.wrap (1 * 2 ^ a0.toNat)) = ji4 := shl_small hji4
  have hji4u : (IntKind.u64.wrap (2 ^ min a0.toNat 64)) = ji4 := by have h_ := hji4_; rw [Int.one_mul] at h_; exact h_
  have hji4v : a0 ≤ 64 → (IntKind.u64.wrap (2 ^ a0.toNat)) = ji4 := fun hle_ => by have h_ := hji4z hle_; rw [Int.one_mul] at h_; exact h_
  obtain ⟨ji5, hji5⟩ : ∃ j_ : Int, (shl .i64 1 (ji4)) = j_ := ⟨_, rfl⟩
  replace H : (spec_l4Story.l0 k a0 l1 (wrap64 ((ji5) - 1)) 0) = some r := by first | (rw [hji5] at H; exact H) | (simp only [hji5] at H ⊢; exact H)
  have hji5_ : (IntKind.i64.wrap (1 * 2 ^ min (ji4).toNat 64)) = ji5 := hji5
  have hji5z : (ji4) ≤ 64 → (IntKind.i64.wrap (1 * 2 ^ (ji4).toNat)) = ji5 := shl_small hji5
  have hji5u : (IntKind.i64.wrap (2 ^ min (ji4).toNat 64)) = ji5 := by have h_ := hji5_; rw [Int.one_mul] at h_; exact h_
  have hji5v : (ji4) ≤ 64 → (IntKind.i64.wrap (2 ^ (ji4).toNat)) = ji5 := fun hle_ => by have h_ := hji5z hle_; rw [Int.one_mul] at h_; exact h_
  have hji5y : (wrap64 (1 * 2 ^ min (ji4).toNat 64)) = ji5 := (i64_w _).symm.trans hji5_
  have hji5x : (ji4) ≤ 64 → (wrap64 (1 * 2 ^ (ji4).toNat)) = ji5 := fun h_ => (i64_w _).symm.trans (hji5z h_)
  have H' := Aside0.mk H
  clear H
  go_enter Try.func84, Try.ntmps84
  go_wp2
  go_loopg [5, 6] k (fun kq v5 v6 w' => ∃ (x5_1 : Int) (x6_1 : Int), v5 = .int .i64 x5_1 ∧ v6 = .int .i64 x6_1 ∧ Aside0 (spec_l4Story.l0 kq a0 l1 x5_1 x6_1 = some r) ∧ Aside0 (kq ≤ k) ∧ Aside0 (Below w.heap.size w w'))
  case atStart => exact ⟨(wrap64 ((ji5) - 1)), (0), (by first | rfl | (simp; done) | (simp only [← hji5] <;> (first | rfl | simp)) | (simp [*]; done)), (by first | rfl | (simp; done) | (simp [*]; done)), H', ⟨Nat.le_refl _⟩, ⟨by repeat (first | (with_reducible first | exact HB.out | apply below_alloc | apply pw_below_drewN | apply below_drew1) | exact HB.out)⟩⟩
  case round =>
   clear H'
   try clear c1
   try clear p2
   try clear c3
   try clear c3b0
   try clear c3b1
   obtain ⟨x5_1, x6_1, rfl, rfl, HA, HK1, HB⟩ := hrel
   cases gk with
   | zero => exact absurd HA.out (by simp [spec_l4Story.l0])
   | succ k1 =>
    have H := HA.out
    clear HA
    simp only [spec_l4Story.l0] at H
    by_cases c6 : x6_1 < (l1.length : Int)
    ·rw [if_pos c6] at H
     have c6b0 : decide (x6_1 < (l1.length : Int)) = true := decide_eq_true c6
     clear c6
     by_cases c7 : 0 ≤ x6_1
     ·rw [if_pos c7] at H
      have c7b0 : decide (0 ≤ x6_1) = true := decide_eq_true c7
      clear c7
      replace H := Option.bind_eq_some_iff.mp H
      obtain ⟨t313, A80, H⟩ := H
      replace H : (spec_l4Story.l0 k1 a0 l1 (Go.bits .and .i64 x5_1 t313) (wrap64 (x6_1 + 1))) = some r := H
      have A8 := Aside0.mk A80
      clear A80
      have H' := Aside0.mk H
      clear H
      have p312 : 0 ≤ (x6_1 : Int) := of_decide_eq_true (by first | (with_reducible assumption) | assumption)
      have q312 : x6_1 < (l1.length : Int) := of_decide_eq_true (by first | (with_reducible assumption) | assumption)
      obtain ⟨ad312, A312_1, c312_1, e312, hx312_0, hx312_1, hl312_1, hi312_1⟩ := at_T83 HR1.out x6_1 p312 q312
      cases e312
      replace hx312_0 := (HB.out.cell (World.block_lt_of_cell? w _ hx312_0)).trans hx312_0
      replace hx312_1 := (HB.out.cell (World.block_lt_of_cell? w _ hx312_1)).trans hx312_1
      have HR312_1 := Aside0.mk hi312_1
      have HC312_1 := Aside0.mk hl312_1
      clear hi312_1 hl312_1
      replace p312 := eq_true p312
      replace q312 := eq_true q312
      go_wp2_with (first | ((with_reducible refine gate_callee (f := 110) rfl ?_); refine goesL_ (some 23) rfl rfl Try.func110 (by kernel_rfl) rfl #[.int .i64 a0, .agg #[.int .i64 ((rd_T83 l1 x6_1).f0), .slice A312_1 ((rd_T83 l1 x6_1).f1).length c312_1]] rfl (by (try simp only [List.map_toArray, List.map_cons, List.map_nil]); first | done | rfl | (simp only [List.length_drop, List.length_take]; rfl)) ?_; (with_reducible refine (spec_l4Table.calls k1 a0 ((rd_T83 l1 x6_1).f0) _ _ ((rd_T83 l1 x6_1).f1) t313 _ ?side1 ?side2 A8.out).mono ?_); (case side1 => repeat (first | exact (Kd.C_below HR312_1.out HB.out) | (with_reducible refine Kd.C_alloc ?_ _) | (with_reducible refine Kd.C_drewN ?_ _) | (with_reducible refine Kd.C_drew ?_))); (case side2 => exact HC312_1.out); rintro e w9 ⟨rfl, hb⟩; refine ⟨_, rfl, ?_⟩; have n0_ := Aside0.mk (below_step (by repeat (first | (with_reducible first | exact HB.out | apply below_alloc | apply pw_below_drewN | apply below_drew1) | exact HB.out)) hb); clear HB; have HB := n0_; clear n0_; (try clear hb); (try clear hb2); (try clear hk); (try clear hi)))
      go_roundg k1
      case measure => have := HK1.out; omega
      case rel => exact ⟨(Go.bits .and .i64 x5_1 t313), (wrap64 (x6_1 + 1)), (by first | rfl | (simp; done) | (simp [*]; done)), (by first | rfl | (simp; done) | (simp [*]; done)), H', ⟨by have := HK1.out; omega⟩, ⟨by repeat (first | (with_reducible first | exact HB.out | apply below_alloc | apply pw_below_drewN | apply below_drew1) | exact HB.out)⟩⟩
     ·rw [if_neg c7] at H
      exact absurd H (by simp)
    ·rw [if_neg c6] at H
     have c6b0 : decide (x6_1 < (l1.length : Int)) = false := decide_eq_false c6
     clear c6
     obtain rfl := Option.some.inj H
     go_wp2
     go_ret
     exact ⟨by first | rfl | (simp [errW_none, errW_some] <;> rfl) | (simp only [← hji4, ← hji5]; first | rfl | (simp [errW_none, errW_some] <;> rfl)) | (simp [*, errW_none, errW_some] <;> rfl), by repeat (first | (with_reducible first | exact HB.out | apply below_alloc | apply pw_below_drewN | apply below_drew1) | exact HB.out)⟩
 ·rw [if_neg c3] at H
  exact absurd H (by simp)

/-! ### spec_LinkWorlds: function 42 -/
def spec_LinkWorlds.f (k : Nat) (a0 : Int) (l1 : List (S31)) : Option (Int) := (spec_LinkStory.f k a0 l1).bind fun bt314 => (if bt314.2 = true then ((spec_l4Story.f k a0 bt314.1).bind fun t318 => ((spec_l1Heads.f k t318).bind fun t319 => (some t319))) else (some (-1)))
theorem spec_LinkWorlds.mono : ∀ a0 a1 k, LeO (spec_LinkWorlds.f k a0 a1) (spec_LinkWorlds.f (k + 1) a0 a1) := by
 intro a0 a1 k
 unfold spec_LinkWorlds.f
 repeat' first
   | (with_reducible exact spec_LinkStory.mono _ _ _)
   | (with_reducible exact spec_l1Heads.mono _ _)
   | (with_reducible exact spec_l4Story.mono _ _ _)
   | (with_reducible exact LeO.refl _)
   | (with_reducible exact LeO.none _)
   | (with_reducible refine LeO.ite ?_ ?_)
   | (with_reducible refine LeO.bind ?_ (fun _ => ?_))
   | exact spec_LinkStory.mono _ _ _
   | exact spec_l1Heads.mono _ _
   | exact spec_l4Story.mono _ _ _
   | exact LeO.none _
   | refine LeO.ite ?_ ?_
   | refine LeO.bind ?_ (fun _ => ?_)
set_option maxHeartbeats 8000000 in
set_option maxRecDepth 100000 in
theorem spec_LinkWorlds.calls (k : Nat) (a0 : Int) (A1 : Option Addr) (c1 : Nat) (l1 : List (S31)) (r : Int) (w : World) (hr1 : Kd.C k31 w A1 l1.length l1) (hc1 : l1.length ≤ c1) (h : spec_LinkWorlds.f k a0 l1 = some r) :
  Calls Try.prog 42 #[.int .i64 a0, .slice A1 l1.length c1] w fun e w' => e = .returned (.int .i64 r) ∧ Below w.heap.size w w' := by
 have HR1 := Aside0.mk hr1
 have HC1 := Aside0.mk hc1
 clear hr1 hc1
 have HB := Aside0.mk (Below.refl w.heap.size w)
 have H : ((spec_LinkStory.f k a0 l1).bind fun bt314 => (if bt314.2 = true then ((spec_l4Story.f k a0 bt314.1).bind fun t318 => ((spec_l1Heads.f k t318).bind fun t319 => (some t319))) else (some (-1)))) = some r := h
 clear h
 replace H := Option.bind_eq_some_iff.mp H
 obtain ⟨⟨t314, t315⟩, A30, H⟩ := H
 replace H : (if t315 = true then ((spec_l4Story.f k a0 t314).bind fun t318 => ((spec_l1Heads.f k t318).bind fun t319 => (some t319))) else (some (-1))) = some r := H
 have A3 := Aside0.mk A30
 clear A30
 by_cases c4 : t315 = true
 ·subst c4
  have H1 : ((spec_l4Story.f k a0 t314).bind fun t318 => ((spec_l1Heads.f k t318).bind fun t319 => (some t319))) = some r := by rw [if_pos rfl] at H; exact H
  clear H
  have H := H1
  clear H1
  replace H := Option.bind_eq_some_iff.mp H
  obtain ⟨t318, A50, H⟩ := H
  replace H : ((spec_l1Heads.f k t318).bind fun t319 => (some t319)) = some r := H
  have A5 := Aside0.mk A50
  clear A50
  replace H := Option.bind_eq_some_iff.mp H
  obtain ⟨t319, A60, H⟩ := H
  replace H : (some t319) = some r := H
  have A6 := Aside0.mk A60
  clear A60
  obtain rfl := Option.some.inj H
  go_enter Try.func42, Try.ntmps42
  go_wp2_with (first | ((with_reducible refine gate_callee (f := 20) rfl ?_); refine goesL_ (some 10) rfl rfl Try.func20 (by kernel_rfl) rfl #[.int .i64 a0, .slice A1 l1.length c1] rfl (by (try simp only [List.map_toArray, List.map_cons, List.map_nil]); first | done | rfl | (simp only [List.length_drop, List.length_take]; rfl)) ?_; (with_reducible refine (spec_LinkStory.calls k a0 _ _ l1 t314 true _ ?side1 ?side2 A3.out).mono ?_); (case side1 => repeat (first | exact HR1.out | (with_reducible refine Kd.C_alloc ?_ _) | (with_reducible refine Kd.C_drewN ?_ _) | (with_reducible refine Kd.C_drew ?_))); (case side2 => exact HC1.out); rintro e w7 ⟨v316, rfl, ho0, hb⟩; refine ⟨_, rfl, ?_⟩; have n0_ := Aside0.mk (Kd.S_lower ho0 (below_size (by repeat (first | (with_reducible first | exact HB.out | apply below_alloc | apply pw_below_drewN | apply below_drew1) | exact HB.out)))); have n1_ := Aside0.mk (below_step (by repeat (first | (with_reducible first | exact HB.out | apply below_alloc | apply pw_below_drewN | apply below_drew1) | exact HB.out)) hb); clear HB; have HO317 := n0_; have HB := n1_; clear n0_ n1_; (try clear hb); (try clear hb2); (try clear hk); (try clear hi); (try clear ho0); obtain ⟨Ao8, co8, eo8⟩ := Kd.S_slice HO317.out; subst eo8) | ((with_reducible refine gate_callee (f := 84) rfl ?_); refine goesL_ (some 17) rfl rfl Try.func84 (by kernel_rfl) rfl #[.int .i64 a0, .slice Ao8 t314.length co8] rfl (by (try simp only [List.map_toArray, List.map_cons, List.map_nil]); first | done | rfl | (simp only [List.length_drop, List.length_take]; rfl)) ?_; (with_reducible refine (spec_l4Story.calls k a0 _ _ t314 t318 _ ?side1 ?side2 A5.out).mono ?_); (case side1 => repeat (first | exact (Kd.S_reads' HO317.out).2.2 | (with_reducible refine Kd.C_alloc ?_ _) | (with_reducible refine Kd.C_drewN ?_ _) | (with_reducible refine Kd.C_drew ?_))); (case side2 => exact (Kd.S_reads' HO317.out).2.1); rintro e w9 ⟨rfl, hb⟩; refine ⟨_, rfl, ?_⟩; have n0_ := Aside0.mk (Kd.S_below (by (with_reducible repeat (first | apply Kd.S_alloc | apply Kd.S_drewN | apply Kd.S_drew)); exact HO317.out) hb); have n1_ := Aside0.mk (below_step (by repeat (first | (with_reducible first | exact HB.out | apply below_alloc | apply pw_below_drewN | apply below_drew1) | exact HB.out)) hb); clear HO317; clear HB; have HO317 := n0_; have HB := n1_; clear n0_ n1_; (try clear hb); (try clear hb2); (try clear hk); (try clear hi)) | ((with_reducible refine gate_callee (f := 91) rfl ?_); refine goesL_ (some 18) rfl rfl Try.func91 (by kernel_rfl) rfl #[.int .i64 t318] rfl (by (try simp only [List.map_toArray, List.map_cons, List.map_nil]); first | done | rfl | (simp only [List.length_drop, List.length_take]; rfl)) ?_; (with_reducible refine (spec_l1Heads.calls k t318 t319 _ A6.out).mono ?_); rintro e w' ⟨rfl, ⟨nd, rfl⟩⟩; refine ⟨_, rfl, ?_⟩))
  go_ret
  exact ⟨by first | rfl | (simp [errW_none, errW_some] <;> rfl) | (simp [*, errW_none, errW_some] <;> rfl), by repeat (first | (with_reducible first | exact HB.out | apply below_alloc | apply pw_below_drewN | apply below_drew1) | exact HB.out)⟩
 ·replace c4 := Bool.eq_false_iff.mpr c4
  subst c4
  have H1 : (some (-1)) = some r := by rw [if_neg (show ¬ (false = true) by decide)] at H; exact H
  clear H
  have H := H1
  clear H1
  obtain rfl := Option.some.inj H
  go_enter Try.func42, Try.ntmps42
  go_wp2_with (first | ((with_reducible refine gate_callee (f := 20) rfl ?_); refine goesL_ (some 10) rfl rfl Try.func20 (by kernel_rfl) rfl #[.int .i64 a0, .slice A1 l1.length c1] rfl (by (try simp only [List.map_toArray, List.map_cons, List.map_nil]); first | done | rfl | (simp only [List.length_drop, List.length_take]; rfl)) ?_; (with_reducible refine (spec_LinkStory.calls k a0 _ _ l1 t314 false _ ?side1 ?side2 A3.out).mono ?_); (case side1 => repeat (first | exact HR1.out | (with_reducible refine Kd.C_alloc ?_ _) | (with_reducible refine Kd.C_drewN ?_ _) | (with_reducible refine Kd.C_drew ?_))); (case side2 => exact HC1.out); rintro e w10 ⟨v316, rfl, ho0, hb⟩; refine ⟨_, rfl, ?_⟩; have n0_ := Aside0.mk (Kd.S_lower ho0 (below_size (by repeat (first | (with_reducible first | exact HB.out | apply below_alloc | apply pw_below_drewN | apply below_drew1) | exact HB.out)))); have n1_ := Aside0.mk (below_step (by repeat (first | (with_reducible first | exact HB.out | apply below_alloc | apply pw_below_drewN | apply below_drew1) | exact HB.out)) hb); clear HB; have HO317 := n0_; have HB := n1_; clear n0_ n1_; (try clear hb); (try clear hb2); (try clear hk); (try clear hi); (try clear ho0)))
  go_ret
  exact ⟨by first | rfl | (simp [errW_none, errW_some] <;> rfl) | (simp [*, errW_none, errW_some] <;> rfl), by repeat (first | (with_reducible first | exact HB.out | apply below_alloc | apply pw_below_drewN | apply below_drew1) | exact HB.out)⟩

end Go.Proofs.Ytbhmippoeimliaa.P

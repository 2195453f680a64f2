/- Written by our program myprint.py out of Lean's print of the translation: Go's function comes to just the answer of the Lean function told here. -/
import Derived.Test.YtnmkifpifmdplaaPx0
import Derived.Test.YtnmkifpifmdplaaPx1
import Derived.Test.YtnmkifpifmdplaaPx4
namespace Go.Proofs.Ytnmkifpifmdplaa.P
open Go.RowKit Go.Proofs.YtnmkifpifmdplaaW.PrintWords Go.Proofs.YtnmkifpifmdplaaW.PrintLast Go.Proofs.YtnmkifpifmdplaaW.PrintMore
attribute [local go_sem] max2_int min2_int max_two min_two max_three min_three max_four min_four   -- for this text's walks alone
set_option linter.unusedVariables false
set_option linter.unusedSimpArgs false

/-! ### spec_l13Least: function 59 -/
mutual
def spec_l13Least.j0 : Nat → Int → Int → Int → Bool → Option (Int)
 | 0, _, _, _, _ => none
 | k + 1, x0, x1, x2, x21 => if x21 = true then (some 0) else (if x2 = 0 then (some (-1)) else (spec_l13Least.l0 k x0 x1 x2 (-1) 0))
def spec_l13Least.l0 : Nat → Int → Int → Int → Int → Int → Option (Int)
 | 0, _, _, _, _, _ => none
 | k + 1, x0, x1, x2, x7, x8 => if x8 < x0 then (spec_l13Least.l1 k x0 x1 x2 x7 x8 (wrap64 (x8 + 1))) else (some x7)
def spec_l13Least.l1 : Nat → Int → Int → Int → Int → Int → Int → Option (Int)
 | 0, _, _, _, _, _, _ => none
 | k + 1, x0, x1, x2, x7, x8, x9 => if x9 < x0 then ((spec_l13Asked.f k x0 x1 x8 x9 true).bind fun t204 => ((spec_l13Asked.f k x0 x1 x8 x9 false).bind fun t205 => (if t204 = x1 then (spec_l13Least.j3 k x0 x1 x2 x7 x8 x9 t204 t205 true) else (spec_l13Least.j3 k x0 x1 x2 x7 x8 x9 t204 t205 (t205 == x1))))) else (spec_l13Least.l0 k x0 x1 x2 x7 (wrap64 (x8 + 1)))
def spec_l13Least.j3 : Nat → Int → Int → Int → Int → Int → Int → Int → Int → Bool → Option (Int)
 | 0, _, _, _, _, _, _, _, _, _ => none
 | k + 1, x0, x1, x2, x7, x8, x9, x10, x11, x53 => if x53 = true then (spec_l13Least.l1 k x0 x1 x2 x7 x8 (wrap64 (x9 + 1))) else ((spec_l13Least.f k x0 x10 (wrap64 (x2 - 1))).bind fun t206 => ((spec_l13Least.f k x0 x11 (wrap64 (x2 - 1))).bind fun t207 => (if t206 < 0 then (spec_l13Least.j4 k x0 x1 x2 x7 x8 x9 t206 t207 true) else (spec_l13Least.j4 k x0 x1 x2 x7 x8 x9 t206 t207 (decide (t207 < 0))))))
def spec_l13Least.j4 : Nat → Int → Int → Int → Int → Int → Int → Int → Int → Bool → Option (Int)
 | 0, _, _, _, _, _, _, _, _, _ => none
 | k + 1, x0, x1, x2, x7, x8, x9, x12, x13, x69 => if x69 = true then (spec_l13Least.l1 k x0 x1 x2 x7 x8 (wrap64 (x9 + 1))) else (if x7 < 0 then (spec_l13Least.l1 k x0 x1 x2 (wrap64 ((mx x12 x13) + 1)) x8 (wrap64 (x9 + 1))) else (if (wrap64 ((mx x12 x13) + 1)) < x7 then (spec_l13Least.l1 k x0 x1 x2 (wrap64 ((mx x12 x13) + 1)) x8 (wrap64 (x9 + 1))) else (spec_l13Least.l1 k x0 x1 x2 x7 x8 (wrap64 (x9 + 1)))))
def spec_l13Least.f : Nat → Int → Int → Int → Option (Int)
 | 0, _, _, _ => none
 | k + 1, a0, a1, a2 => if a1 = 0 then (spec_l13Least.j0 k a0 a1 a2 true) else ((spec_l13Teller.f k a0 a1).bind fun t203 => (spec_l13Least.j0 k a0 a1 a2 (decide (t203 ≥ 0))))
end
theorem spec_l13Least.mono_l : ∀ k, (∀ y0 y1 y2, LeO (spec_l13Least.f k y0 y1 y2) (spec_l13Least.f (k + 1) y0 y1 y2)) ∧ (∀ y0 y1 y2 y3, LeO (spec_l13Least.j0 k y0 y1 y2 y3) (spec_l13Least.j0 (k + 1) y0 y1 y2 y3)) ∧ (∀ y0 y1 y2 y3 y4, LeO (spec_l13Least.l0 k y0 y1 y2 y3 y4) (spec_l13Least.l0 (k + 1) y0 y1 y2 y3 y4)) ∧ (∀ y0 y1 y2 y3 y4 y5, LeO (spec_l13Least.l1 k y0 y1 y2 y3 y4 y5) (spec_l13Least.l1 (k + 1) y0 y1 y2 y3 y4 y5)) ∧ (∀ y0 y1 y2 y3 y4 y5 y6 y7 y8, LeO (spec_l13Least.j3 k y0 y1 y2 y3 y4 y5 y6 y7 y8) (spec_l13Least.j3 (k + 1) y0 y1 y2 y3 y4 y5 y6 y7 y8)) ∧ (∀ y0 y1 y2 y3 y4 y5 y6 y7 y8, LeO (spec_l13Least.j4 k y0 y1 y2 y3 y4 y5 y6 y7 y8) (spec_l13Least.j4 (k + 1) y0 y1 y2 y3 y4 y5 y6 y7 y8))
 | 0 => ⟨fun _ _ _ r h => by simp [spec_l13Least.f] at h, fun _ _ _ _ r h => by simp [spec_l13Least.j0] at h, fun _ _ _ _ _ r h => by simp [spec_l13Least.l0] at h, fun _ _ _ _ _ _ r h => by simp [spec_l13Least.l1] at h, fun _ _ _ _ _ _ _ _ _ r h => by simp [spec_l13Least.j3] at h, fun _ _ _ _ _ _ _ _ _ r h => by simp [spec_l13Least.j4] at h⟩
 | k + 1 => by
  obtain ⟨ih0, ih1, ih2, ih3, ih4, ih5⟩ := spec_l13Least.mono_l k
  refine ⟨?_, ?_, ?_, ?_, ?_, ?_⟩
  ·intro y0 y1 y2
   unfold spec_l13Least.f
   repeat' first
   | (with_reducible exact ih0 _ _ _)
   | (with_reducible exact ih1 _ _ _ _)
   | (with_reducible exact ih2 _ _ _ _ _)
   | (with_reducible exact ih3 _ _ _ _ _ _)
   | (with_reducible exact ih4 _ _ _ _ _ _ _ _ _)
   | (with_reducible exact ih5 _ _ _ _ _ _ _ _ _)
   | (with_reducible exact spec_l13Asked.mono _ _ _ _ _ _)
   | (with_reducible exact spec_l13Teller.mono _ _ _)
   | (with_reducible exact LeO.refl _)
   | (with_reducible exact LeO.none _)
   | (with_reducible refine LeO.ite ?_ ?_)
   | (with_reducible refine LeO.bind ?_ (fun _ => ?_))
   | exact ih0 _ _ _
   | exact ih1 _ _ _ _
   | exact ih2 _ _ _ _ _
   | exact ih3 _ _ _ _ _ _
   | exact ih4 _ _ _ _ _ _ _ _ _
   | exact ih5 _ _ _ _ _ _ _ _ _
   | exact spec_l13Asked.mono _ _ _ _ _ _
   | exact spec_l13Teller.mono _ _ _
   | exact LeO.none _
   | refine LeO.ite ?_ ?_
   | refine LeO.bind ?_ (fun _ => ?_)
  ·intro y0 y1 y2 y3
   unfold spec_l13Least.j0
   repeat' first
   | (with_reducible exact ih0 _ _ _)
   | (with_reducible exact ih1 _ _ _ _)
   | (with_reducible exact ih2 _ _ _ _ _)
   | (with_reducible exact ih3 _ _ _ _ _ _)
   | (with_reducible exact ih4 _ _ _ _ _ _ _ _ _)
   | (with_reducible exact ih5 _ _ _ _ _ _ _ _ _)
   | (with_reducible exact spec_l13Asked.mono _ _ _ _ _ _)
   | (with_reducible exact spec_l13Teller.mono _ _ _)
   | (with_reducible exact LeO.refl _)
   | (with_reducible exact LeO.none _)
   | (with_reducible refine LeO.ite ?_ ?_)
   | (with_reducible refine LeO.bind ?_ (fun _ => ?_))
   | exact ih0 _ _ _
   | exact ih1 _ _ _ _
   | exact ih2 _ _ _ _ _
   | exact ih3 _ _ _ _ _ _
   | exact ih4 _ _ _ _ _ _ _ _ _
   | exact ih5 _ _ _ _ _ _ _ _ _
   | exact spec_l13Asked.mono _ _ _ _ _ _
   | exact spec_l13Teller.mono _ _ _
   | exact LeO.none _
   | refine LeO.ite ?_ ?_
   | refine LeO.bind ?_ (fun _ => ?_)
  ·intro y0 y1 y2 y3 y4
   unfold spec_l13Least.l0
   repeat' first
   | (with_reducible exact ih0 _ _ _)
   | (with_reducible exact ih1 _ _ _ _)
   | (with_reducible exact ih2 _ _ _ _ _)
   | (with_reducible exact ih3 _ _ _ _ _ _)
   | (with_reducible exact ih4 _ _ _ _ _ _ _ _ _)
   | (with_reducible exact ih5 _ _ _ _ _ _ _ _ _)
   | (with_reducible exact spec_l13Asked.mono _ _ _ _ _ _)
   | (with_reducible exact spec_l13Teller.mono _ _ _)
   | (with_reducible exact LeO.refl _)
   | (with_reducible exact LeO.none _)
   | (with_reducible refine LeO.ite ?_ ?_)
   | (with_reducible refine LeO.bind ?_ (fun _ => ?_))
   | exact ih0 _ _ _
   | exact ih1 _ _ _ _
   | exact ih2 _ _ _ _ _
   | exact ih3 _ _ _ _ _ _
   | exact ih4 _ _ _ _ _ _ _ _ _
   | exact ih5 _ _ _ _ _ _ _ _ _
   | exact spec_l13Asked.mono _ _ _ _ _ _
   | exact spec_l13Teller.mono _ _ _
   | exact LeO.none _
   | refine LeO.ite ?_ ?_
   | refine LeO.bind ?_ (fun _ => ?_)
  ·intro y0 y1 y2 y3 y4 y5
   unfold spec_l13Least.l1
   repeat' first
   | (with_reducible exact ih0 _ _ _)
   | (with_reducible exact ih1 _ _ _ _)
   | (with_reducible exact ih2 _ _ _ _ _)
   | (with_reducible exact ih3 _ _ _ _ _ _)
   | (with_reducible exact ih4 _ _ _ _ _ _ _ _ _)
   | (with_reducible exact ih5 _ _ _ _ _ _ _ _ _)
   | (with_reducible exact spec_l13Asked.mono _ _ _ _ _ _)
   | (with_reducible exact spec_l13Teller.mono _ _ _)
   | (with_reducible exact LeO.refl _)
   | (with_reducible exact LeO.none _)
   | (with_reducible refine LeO.ite ?_ ?_)
   | (with_reducible refine LeO.bind ?_ (fun _ => ?_))
   | exact ih0 _ _ _
   | exact ih1 _ _ _ _
   | exact ih2 _ _ _ _ _
   | exact ih3 _ _ _ _ _ _
   | exact ih4 _ _ _ _ _ _ _ _ _
   | exact ih5 _ _ _ _ _ _ _ _ _
   | exact spec_l13Asked.mono _ _ _ _ _ _
   | exact spec_l13Teller.mono _ _ _
   | exact LeO.none _
   | refine LeO.ite ?_ ?_
   | refine LeO.bind ?_ (fun _ => ?_)
  ·intro y0 y1 y2 y3 y4 y5 y6 y7 y8
   unfold spec_l13Least.j3
   repeat' first
   | (with_reducible exact ih0 _ _ _)
   | (with_reducible exact ih1 _ _ _ _)
   | (with_reducible exact ih2 _ _ _ _ _)
   | (with_reducible exact ih3 _ _ _ _ _ _)
   | (with_reducible exact ih4 _ _ _ _ _ _ _ _ _)
   | (with_reducible exact ih5 _ _ _ _ _ _ _ _ _)
   | (with_reducible exact spec_l13Asked.mono _ _ _ _ _ _)
   | (with_reducible exact spec_l13Teller.mono _ _ _)
   | (with_reducible exact LeO.refl _)
   | (with_reducible exact LeO.none _)
   | (with_reducible refine LeO.ite ?_ ?_)
   | (with_reducible refine LeO.bind ?_ (fun _ => ?_))
   | exact ih0 _ _ _
   | exact ih1 _ _ _ _
   | exact ih2 _ _ _ _ _
   | exact ih3 _ _ _ _ _ _
   | exact ih4 _ _ _ _ _ _ _ _ _
   | exact ih5 _ _ _ _ _ _ _ _ _
   | exact spec_l13Asked.mono _ _ _ _ _ _
   | exact spec_l13Teller.mono _ _ _
   | exact LeO.none _
   | refine LeO.ite ?_ ?_
   | refine LeO.bind ?_ (fun _ => ?_)
  ·intro y0 y1 y2 y3 y4 y5 y6 y7 y8
   unfold spec_l13Least.j4
   repeat' first
   | (with_reducible exact ih0 _ _ _)
   | (with_reducible exact ih1 _ _ _ _)
   | (with_reducible exact ih2 _ _ _ _ _)
   | (with_reducible exact ih3 _ _ _ _ _ _)
   | (with_reducible exact ih4 _ _ _ _ _ _ _ _ _)
   | (with_reducible exact ih5 _ _ _ _ _ _ _ _ _)
   | (with_reducible exact spec_l13Asked.mono _ _ _ _ _ _)
   | (with_reducible exact spec_l13Teller.mono _ _ _)
   | (with_reducible exact LeO.refl _)
   | (with_reducible exact LeO.none _)
   | (with_reducible refine LeO.ite ?_ ?_)
   | (with_reducible refine LeO.bind ?_ (fun _ => ?_))
   | exact ih0 _ _ _
   | exact ih1 _ _ _ _
   | exact ih2 _ _ _ _ _
   | exact ih3 _ _ _ _ _ _
   | exact ih4 _ _ _ _ _ _ _ _ _
   | exact ih5 _ _ _ _ _ _ _ _ _
   | exact spec_l13Asked.mono _ _ _ _ _ _
   | exact spec_l13Teller.mono _ _ _
   | exact LeO.none _
   | refine LeO.ite ?_ ?_
   | refine LeO.bind ?_ (fun _ => ?_)
theorem spec_l13Least.mono : ∀ a0 a1 a2 k, LeO (spec_l13Least.f k a0 a1 a2) (spec_l13Least.f (k + 1) a0 a1 a2) := by
 intro a0 a1 a2 k
 obtain ⟨ih0, ih1, ih2, ih3, ih4, ih5⟩ := spec_l13Least.mono_l k
 exact ih0 a0 a1 a2
set_option maxHeartbeats 8000000 in
set_option maxRecDepth 100000 in
theorem spec_l13Least.calls (k : Nat) : ∀ (a0 : Int) (a1 : Int) (a2 : Int) (r : Int) (w : World) (h : spec_l13Least.f k a0 a1 a2 = some r),
  Calls Try.prog 59 #[.int .i64 a0, .int .i64 a1, .int .i64 a2] w fun e w' => e = .returned (.int .i64 r) ∧ Below w.heap.size w w' := by
 induction k using Nat.strongRecOn with
 | _ k ih =>
 intro a0 a1 a2 r w h
 cases k with
 | zero => exact absurd h (by simp [spec_l13Least.f])
 | succ k =>
 simp only [spec_l13Least.f] at h
 have HB := Aside0.mk (Below.refl w.heap.size w)
 have H : (if a1 = 0 then (spec_l13Least.j0 k a0 a1 a2 true) else ((spec_l13Teller.f k a0 a1).bind fun t203 => (spec_l13Least.j0 k a0 a1 a2 (decide (t203 ≥ 0))))) = some r := h
 clear h
 have HC4 := Aside0.mk H
 clear H
 go_enter Try.func59, Try.ntmps59
 go_upto_region 1 with (fail)
 go_cut [21] (fun v21 wc => ∃ (kq : Nat) (x21_3 : Bool), v21 = .bool x21_3 ∧ Aside0 (spec_l13Least.j0 kq a0 a1 a2 x21_3 = some r) ∧ Aside0 (kq ≤ k) ∧ Aside0 (Below w.heap.size w wc))
 case first =>
  have H := HC4.out
  clear HC4
  by_cases c5 : a1 = 0
  ·rw [if_pos c5] at H
   have c5b0 : (a1 == 0) = true := beq_iff_eq.mpr c5
   have c5b1 : (a1 != 0) = false := bne_eq_false_iff_eq.mpr c5
   clear c5
   (first | rw [c5b0] | (simp only [i64_w, i32_w]; rw [c5b0]) | skip)
   have H' := Aside0.mk H
   clear H
   go_wp2
   go_meet
   case rel => exact ⟨_, (true), (by first | rfl | (simp; done) | (simp [*]; done)), H', ⟨by first | omega | exact Nat.le_refl _⟩, ⟨by repeat (first | (with_reducible first | exact HB.out | apply below_alloc | apply pw_below_drewN | apply below_drew1) | exact HB.out)⟩⟩
  ·rw [if_neg c5] at H
   have c5b0 : (a1 == 0) = false := beq_eq_false_iff_ne.mpr c5
   have c5b1 : (a1 != 0) = true := bne_iff_ne.mpr c5
   (first | rw [c5b0] | (simp only [i64_w, i32_w]; rw [c5b0]) | skip)
   replace H := Option.bind_eq_some_iff.mp H
   obtain ⟨t203, A60, H⟩ := H
   replace H : (spec_l13Least.j0 k a0 a1 a2 (decide (t203 ≥ 0))) = some r := H
   have A6 := Aside0.mk A60
   clear A60
   have H' := Aside0.mk H
   clear H
   go_wp2_with (first | (go_at_call 49; (with_reducible refine (spec_l13Teller.calls k a0 a1 t203 _ A6.out).mono ?_); rintro e w' ⟨rfl, ⟨nd, rfl⟩⟩))
   go_meet
   case rel => exact ⟨_, (decide (t203 ≥ 0)), (by first | rfl | (simp; done) | (simp [*]; done)), H', ⟨by first | omega | exact Nat.le_refl _⟩, ⟨by repeat (first | (with_reducible first | exact HB.out | apply below_alloc | apply pw_below_drewN | apply below_drew1) | exact HB.out)⟩⟩
 case rest =>
  clear HC4
  try clear p2
  try clear c5
  try clear c5b0
  try clear c5b1
  obtain ⟨kq, x21_3, rfl, HA, HJ3, HB⟩ := hcut
  cases kq with
  | zero => exact absurd HA.out (by simp [spec_l13Least.j0])
  | succ kj3 =>
   have H := HA.out
   clear HA
   simp only [spec_l13Least.j0] at H
   by_cases c7 : x21_3 = true
   ·subst c7
    have H1 : (some 0) = some r := by rw [if_pos rfl] at H; exact H
    clear H
    have H := H1
    clear H1
    obtain rfl := Option.some.inj H
    go_wp2
    go_ret
    exact ⟨by first | rfl | (simp [errW_none, errW_some] <;> rfl) | (simp [*, errW_none, errW_some] <;> rfl), by repeat (first | (with_reducible first | exact HB.out | apply below_alloc | apply pw_below_drewN | apply below_drew1) | exact HB.out)⟩
   ·replace c7 := Bool.eq_false_iff.mpr c7
    subst c7
    have H1 : (if a2 = 0 then (some (-1)) else (spec_l13Least.l0 kj3 a0 a1 a2 (-1) 0)) = some r := by rw [if_neg (show ¬ (false = true) by decide)] at H; exact H
    clear H
    have H := H1
    clear H1
    by_cases c8 : a2 = 0
    ·rw [if_pos c8] at H
     have c8b0 : (a2 == 0) = true := beq_iff_eq.mpr c8
     have c8b1 : (a2 != 0) = false := bne_eq_false_iff_eq.mpr c8
     clear c8
     obtain rfl := Option.some.inj H
     go_wp2
     go_ret
     exact ⟨by first | rfl | (simp [errW_none, errW_some] <;> rfl) | (simp [*, errW_none, errW_some] <;> rfl), by repeat (first | (with_reducible first | exact HB.out | apply below_alloc | apply pw_below_drewN | apply below_drew1) | exact HB.out)⟩
    ·rw [if_neg c8] at H
     have c8b0 : (a2 == 0) = false := beq_eq_false_iff_ne.mpr c8
     have c8b1 : (a2 != 0) = true := bne_iff_ne.mpr c8
     have H' := Aside0.mk H
     clear H
     go_wp2
     go_loopg [7, 8] kj3 (fun kq v7 v8 w' => ∃ (x7_2 : Int) (x8_2 : Int), v7 = .int .i64 x7_2 ∧ v8 = .int .i64 x8_2 ∧ Aside0 (spec_l13Least.l0 kq a0 a1 a2 x7_2 x8_2 = some r) ∧ Aside0 (kq ≤ kj3) ∧ Aside0 (Below w.heap.size w w'))
     case atStart => exact ⟨((-1)), (0), (by first | rfl | (simp; done) | (simp [*]; done)), (by first | rfl | (simp; done) | (simp [*]; done)), H', ⟨Nat.le_refl _⟩, ⟨by repeat (first | (with_reducible first | exact HB.out | apply below_alloc | apply pw_below_drewN | apply below_drew1) | exact HB.out)⟩⟩
     case round =>
      clear H'
      try clear p2
      try clear c5
      try clear c5b0
      try clear c5b1
      try clear c7
      try clear c8
      try clear c8b0
      try clear c8b1
      try clear p2
      obtain ⟨x7_2, x8_2, rfl, rfl, HA, HK2, HB⟩ := hrel
      cases gk with
      | zero => exact absurd HA.out (by simp [spec_l13Least.l0])
      | succ k2 =>
       have H := HA.out
       clear HA
       simp only [spec_l13Least.l0] at H
       by_cases c9 : x8_2 < a0
       ·rw [if_pos c9] at H
        have c9b0 : decide (x8_2 < a0) = true := decide_eq_true c9
        clear c9
        have H' := Aside0.mk H
        clear H
        go_wp2
        go_loopg [7, 9] k2 (fun kq v7 v9 w' => ∃ (x7_3 : Int) (x9_3 : Int), v7 = .int .i64 x7_3 ∧ v9 = .int .i64 x9_3 ∧ Aside0 (spec_l13Least.l1 kq a0 a1 a2 x7_3 x8_2 x9_3 = some r) ∧ Aside0 (kq ≤ k2) ∧ Aside0 (Below w.heap.size w w'))
        case atStart => exact ⟨(x7_2), (wrap64 (x8_2 + 1)), (by first | rfl | (simp; done) | (simp [*]; done)), (by first | rfl | (simp; done) | (simp [*]; done)), H', ⟨Nat.le_refl _⟩, ⟨by repeat (first | (with_reducible first | exact HB.out | apply below_alloc | apply pw_below_drewN | apply below_drew1) | exact HB.out)⟩⟩
        case round =>
         clear H'
         try clear p2
         try clear c5
         try clear c5b0
         try clear c5b1
         try clear p6
         try clear c7
         try clear c8
         try clear c8b0
         try clear c8b1
         try clear c9
         try clear c9b0
         try clear p2
         obtain ⟨x7_3, x9_3, rfl, rfl, HA, HK3, HB⟩ := hrel
         cases gk with
         | zero => exact absurd HA.out (by simp [spec_l13Least.l1])
         | succ k3 =>
          have H := HA.out
          clear HA
          simp only [spec_l13Least.l1] at H
          by_cases c10 : x9_3 < a0
          ·rw [if_pos c10] at H
           have c10b0 : decide (x9_3 < a0) = true := decide_eq_true c10
           clear c10
           replace H := Option.bind_eq_some_iff.mp H
           obtain ⟨t204, A110, H⟩ := H
           replace H : ((spec_l13Asked.f k3 a0 a1 x8_2 x9_3 false).bind fun t205 => (if t204 = a1 then (spec_l13Least.j3 k3 a0 a1 a2 x7_3 x8_2 x9_3 t204 t205 true) else (spec_l13Least.j3 k3 a0 a1 a2 x7_3 x8_2 x9_3 t204 t205 (t205 == a1)))) = some r := H
           have A11 := Aside0.mk A110
           clear A110
           replace H := Option.bind_eq_some_iff.mp H
           obtain ⟨t205, A120, H⟩ := H
           replace H : (if t204 = a1 then (spec_l13Least.j3 k3 a0 a1 a2 x7_3 x8_2 x9_3 t204 t205 true) else (spec_l13Least.j3 k3 a0 a1 a2 x7_3 x8_2 x9_3 t204 t205 (t205 == a1))) = some r := H
           have A12 := Aside0.mk A120
           clear A120
           have HC13 := Aside0.mk H
           clear H
           go_upto_region 14 with (first | ((with_reducible refine gate_callee (f := 46) rfl ?_); refine goesL_ (some 40) rfl rfl Try.func46 (by kernel_rfl) rfl #[.int .i64 a0, .int .i64 a1, .int .i64 x8_2, .int .i64 x9_3, .bool true] rfl (by (try simp only [List.map_toArray, List.map_cons, List.map_nil]); first | done | rfl | (simp only [List.length_drop, List.length_take]; rfl)) ?_; (with_reducible refine (spec_l13Asked.calls k3 a0 a1 x8_2 x9_3 true t204 _ A11.out).mono ?_); rintro e w' ⟨rfl, ⟨nd, rfl⟩⟩; refine ⟨_, rfl, ?_⟩) | ((with_reducible refine gate_callee (f := 46) rfl ?_); refine goesL_ (some 45) rfl rfl Try.func46 (by kernel_rfl) rfl #[.int .i64 a0, .int .i64 a1, .int .i64 x8_2, .int .i64 x9_3, .bool false] rfl (by (try simp only [List.map_toArray, List.map_cons, List.map_nil]); first | done | rfl | (simp only [List.length_drop, List.length_take]; rfl)) ?_; (with_reducible refine (spec_l13Asked.calls k3 a0 a1 x8_2 x9_3 false t205 _ A12.out).mono ?_); rintro e w' ⟨rfl, ⟨nd, rfl⟩⟩; refine ⟨_, rfl, ?_⟩))
           (try simp only [Act.put, List.setIfInBounds_toArray, List.set_cons_zero, List.set_cons_succ])
           go_cut [53] (fun v53 wc => ∃ (kq : Nat) (x53_12 : Bool), v53 = .bool x53_12 ∧ Aside0 (spec_l13Least.j3 kq a0 a1 a2 x7_3 x8_2 x9_3 t204 t205 x53_12 = some r) ∧ Aside0 (kq ≤ k3) ∧ Aside0 (Below w.heap.size w wc))
           case first =>
            have H := HC13.out
            clear HC13
            by_cases c14 : t204 = a1
            ·rw [if_pos c14] at H
             have c14b0 : (t204 == a1) = true := beq_iff_eq.mpr c14
             have c14b1 : (t204 != a1) = false := bne_eq_false_iff_eq.mpr c14
             clear c14
             (first | rw [c14b0] | (simp only [i64_w, i32_w]; rw [c14b0]) | skip)
             have H' := Aside0.mk H
             clear H
             go_wp2
             go_meet
             case rel => exact ⟨_, (true), (by first | rfl | (simp; done) | (simp [*]; done)), H', ⟨by have := HJ3.out; have := HK2.out; have := HK3.out; first | omega | exact Nat.le_refl _⟩, ⟨by repeat (first | (with_reducible first | exact HB.out | apply below_alloc | apply pw_below_drewN | apply below_drew1) | exact HB.out)⟩⟩
            ·rw [if_neg c14] at H
             have c14b0 : (t204 == a1) = false := beq_eq_false_iff_ne.mpr c14
             have c14b1 : (t204 != a1) = true := bne_iff_ne.mpr c14
             (first | rw [c14b0] | (simp only [i64_w, i32_w]; rw [c14b0]) | skip)
             have H' := Aside0.mk H
             clear H
             go_wp2
             go_meet
             case rel => exact ⟨_, ((t205 == a1)), (by first | rfl | (simp; done) | (simp [*]; done)), H', ⟨by have := HJ3.out; have := HK2.out; have := HK3.out; first | omega | exact Nat.le_refl _⟩, ⟨by repeat (first | (with_reducible first | exact HB.out | apply below_alloc | apply pw_below_drewN | apply below_drew1) | exact HB.out)⟩⟩
           case rest =>
            clear HC13
            try clear c1
            try clear p2
            try clear c4
            try clear c5
            try clear c5b0
            try clear c5b1
            try clear p6
            try clear c7
            try clear c8
            try clear c8b0
            try clear c8b1
            try clear c9
            try clear c9b0
            try clear c10
            try clear c10b0
            try clear c14
            try clear c14b0
            try clear c14b1
            try clear p2
            try clear p6
            obtain ⟨kq, x53_12, rfl, HA, HJ12, HB⟩ := hcut
            cases kq with
            | zero => exact absurd HA.out (by simp [spec_l13Least.j3])
            | succ kj12 =>
             have H := HA.out
             clear HA
             simp only [spec_l13Least.j3] at H
             by_cases c15 : x53_12 = true
             ·subst c15
              have H1 : (spec_l13Least.l1 kj12 a0 a1 a2 x7_3 x8_2 (wrap64 (x9_3 + 1))) = some r := by rw [if_pos rfl] at H; exact H
              clear H
              have H := H1
              clear H1
              have H' := Aside0.mk H
              clear H
              go_wp2
              go_roundg kj12
              case measure => have := HJ3.out; have := HK2.out; have := HK3.out; have := HJ12.out; omega
              case rel => exact ⟨(x7_3), (wrap64 (x9_3 + 1)), (by first | rfl | (simp; done) | (simp [*]; done)), (by first | rfl | (simp; done) | (simp [*]; done)), H', ⟨by have := HJ3.out; have := HK2.out; have := HK3.out; have := HJ12.out; omega⟩, ⟨by repeat (first | (with_reducible first | exact HB.out | apply below_alloc | apply pw_below_drewN | apply below_drew1) | exact HB.out)⟩⟩
             ·replace c15 := Bool.eq_false_iff.mpr c15
              subst c15
              have H1 : ((spec_l13Least.f kj12 a0 t204 (wrap64 (a2 - 1))).bind fun t206 => ((spec_l13Least.f kj12 a0 t205 (wrap64 (a2 - 1))).bind fun t207 => (if t206 < 0 then (spec_l13Least.j4 kj12 a0 a1 a2 x7_3 x8_2 x9_3 t206 t207 true) else (spec_l13Least.j4 kj12 a0 a1 a2 x7_3 x8_2 x9_3 t206 t207 (decide (t207 < 0)))))) = some r := by rw [if_neg (show ¬ (false = true) by decide)] at H; exact H
              clear H
              have H := H1
              clear H1
              replace H := Option.bind_eq_some_iff.mp H
              obtain ⟨t206, A160, H⟩ := H
              replace H : ((spec_l13Least.f kj12 a0 t205 (wrap64 (a2 - 1))).bind fun t207 => (if t206 < 0 then (spec_l13Least.j4 kj12 a0 a1 a2 x7_3 x8_2 x9_3 t206 t207 true) else (spec_l13Least.j4 kj12 a0 a1 a2 x7_3 x8_2 x9_3 t206 t207 (decide (t207 < 0))))) = some r := H
              have A16 := Aside0.mk A160
              clear A160
              replace H := Option.bind_eq_some_iff.mp H
              obtain ⟨t207, A170, H⟩ := H
              replace H : (if t206 < 0 then (spec_l13Least.j4 kj12 a0 a1 a2 x7_3 x8_2 x9_3 t206 t207 true) else (spec_l13Least.j4 kj12 a0 a1 a2 x7_3 x8_2 x9_3 t206 t207 (decide (t207 < 0)))) = some r := H
              have A17 := Aside0.mk A170
              clear A170
              have HC18 := Aside0.mk H
              clear H
              go_upto_region 17 with (first | ((with_reducible refine gate_callee (f := 59) rfl ?_); refine goesL_ (some 58) rfl rfl Try.func59 (by kernel_rfl) rfl #[.int .i64 a0, .int .i64 t204, .int .i64 (wrap64 (a2 - 1))] rfl (by (try simp only [List.map_toArray, List.map_cons, List.map_nil]); first | done | rfl | (simp only [List.length_drop, List.length_take]; rfl)) ?_; (with_reducible refine (ih kj12 (by have := HJ3.out; have := HK2.out; have := HK3.out; have := HJ12.out; omega) a0 t204 (wrap64 (a2 - 1)) t206 _ A16.out).mono ?_); rintro e w19 ⟨rfl, hb⟩; refine ⟨_, rfl, ?_⟩; have n0_ := Aside0.mk (below_step (by repeat (first | (with_reducible first | exact HB.out | apply below_alloc | apply pw_below_drewN | apply below_drew1) | exact HB.out)) hb); clear HB; have HB := n0_; clear n0_; (try clear hb); (try clear hb2); (try clear hk); (try clear hi)) | ((with_reducible refine gate_callee (f := 59) rfl ?_); refine goesL_ (some 63) rfl rfl Try.func59 (by kernel_rfl) rfl #[.int .i64 a0, .int .i64 t205, .int .i64 (wrap64 (a2 - 1))] rfl (by (try simp only [List.map_toArray, List.map_cons, List.map_nil]); first | done | rfl | (simp only [List.length_drop, List.length_take]; rfl)) ?_; (with_reducible refine (ih kj12 (by have := HJ3.out; have := HK2.out; have := HK3.out; have := HJ12.out; omega) a0 t205 (wrap64 (a2 - 1)) t207 _ A17.out).mono ?_); rintro e w20 ⟨rfl, hb⟩; refine ⟨_, rfl, ?_⟩; have n0_ := Aside0.mk (below_step (by repeat (first | (with_reducible first | exact HB.out | apply below_alloc | apply pw_below_drewN | apply below_drew1) | exact HB.out)) hb); clear HB; have HB := n0_; clear n0_; (try clear hb); (try clear hb2); (try clear hk); (try clear hi)))
              (try simp only [Act.put, List.setIfInBounds_toArray, List.set_cons_zero, List.set_cons_succ])
              go_cut [69] (fun v69 wc => ∃ (kq : Nat) (x69_17 : Bool), v69 = .bool x69_17 ∧ Aside0 (spec_l13Least.j4 kq a0 a1 a2 x7_3 x8_2 x9_3 t206 t207 x69_17 = some r) ∧ Aside0 (kq ≤ kj12) ∧ Aside0 (Below w.heap.size w wc))
              case first =>
               have H := HC18.out
               clear HC18
               by_cases c21 : t206 < 0
               ·rw [if_pos c21] at H
                have c21b0 : decide (t206 < 0) = true := decide_eq_true c21
                clear c21
                (first | rw [c21b0] | (simp only [i64_w, i32_w]; rw [c21b0]) | skip)
                have H' := Aside0.mk H
                clear H
                go_wp2
                go_meet
                case rel => exact ⟨_, (true), (by first | rfl | (simp; done) | (simp [*]; done)), H', ⟨by have := HJ3.out; have := HK2.out; have := HK3.out; have := HJ12.out; first | omega | exact Nat.le_refl _⟩, ⟨by repeat (first | (with_reducible first | exact HB.out | apply below_alloc | apply pw_below_drewN | apply below_drew1) | exact HB.out)⟩⟩
               ·rw [if_neg c21] at H
                have c21b0 : decide (t206 < 0) = false := decide_eq_false c21
                clear c21
                (first | rw [c21b0] | (simp only [i64_w, i32_w]; rw [c21b0]) | skip)
                have H' := Aside0.mk H
                clear H
                go_wp2
                go_meet
                case rel => exact ⟨_, (decide (t207 < 0)), (by first | rfl | (simp; done) | (simp [*]; done)), H', ⟨by have := HJ3.out; have := HK2.out; have := HK3.out; have := HJ12.out; first | omega | exact Nat.le_refl _⟩, ⟨by repeat (first | (with_reducible first | exact HB.out | apply below_alloc | apply pw_below_drewN | apply below_drew1) | exact HB.out)⟩⟩
              case rest =>
               clear HC18
               try clear c1
               try clear c2
               try clear p2
               try clear c4
               try clear c5
               try clear c5b0
               try clear c5b1
               try clear p6
               try clear c7
               try clear c8
               try clear c8b0
               try clear c8b1
               try clear c9
               try clear c9b0
               try clear c10
               try clear c10b0
               try clear c14
               try clear c14b0
               try clear c14b1
               try clear c15
               try clear c21
               try clear c21b0
               try clear p2
               try clear p6
               obtain ⟨kq, x69_17, rfl, HA, HJ17, HB⟩ := hcut
               cases kq with
               | zero => exact absurd HA.out (by simp [spec_l13Least.j4])
               | succ kj17 =>
                have H := HA.out
                clear HA
                simp only [spec_l13Least.j4] at H
                by_cases c22 : x69_17 = true
                ·subst c22
                 have H1 : (spec_l13Least.l1 kj17 a0 a1 a2 x7_3 x8_2 (wrap64 (x9_3 + 1))) = some r := by rw [if_pos rfl] at H; exact H
                 clear H
                 have H := H1
                 clear H1
                 have H' := Aside0.mk H
                 clear H
                 go_wp2
                 go_roundg kj17
                 case measure => have := HJ3.out; have := HK2.out; have := HK3.out; have := HJ12.out; have := HJ17.out; omega
                 case rel => exact ⟨(x7_3), (wrap64 (x9_3 + 1)), (by first | rfl | (simp; done) | (simp [*]; done)), (by first | rfl | (simp; done) | (simp [*]; done)), H', ⟨by have := HJ3.out; have := HK2.out; have := HK3.out; have := HJ12.out; have := HJ17.out; omega⟩, ⟨by repeat (first | (with_reducible first | exact HB.out | apply below_alloc | apply pw_below_drewN | apply below_drew1) | exact HB.out)⟩⟩
                ·replace c22 := Bool.eq_false_iff.mpr c22
                 subst c22
                 have H1 : (if x7_3 < 0 then (spec_l13Least.l1 kj17 a0 a1 a2 (wrap64 ((mx t206 t207) + 1)) x8_2 (wrap64 (x9_3 + 1))) else (if (wrap64 ((mx t206 t207) + 1)) < x7_3 then (spec_l13Least.l1 kj17 a0 a1 a2 (wrap64 ((mx t206 t207) + 1)) x8_2 (wrap64 (x9_3 + 1))) else (spec_l13Least.l1 kj17 a0 a1 a2 x7_3 x8_2 (wrap64 (x9_3 + 1))))) = some r := by rw [if_neg (show ¬ (false = true) by decide)] at H; exact H
                 clear H
                 have H := H1
                 clear H1
                 by_cases c23 : x7_3 < 0
                 ·rw [if_pos c23] at H
                  have c23b0 : decide (x7_3 < 0) = true := decide_eq_true c23
                  clear c23
                  obtain ⟨ji24, hji24⟩ : ∃ j_ : Int, (mx t206 t207) = j_ := ⟨_, rfl⟩
                  replace H : (spec_l13Least.l1 kj17 a0 a1 a2 (wrap64 ((ji24) + 1)) x8_2 (wrap64 (x9_3 + 1))) = some r := by first | (rw [hji24] at H; exact H) | (simp only [hji24] at H ⊢; exact H)
                  have hji24_ : (if t206 < t207 then t207 else t206) = ji24 := hji24
                  have H' := Aside0.mk H
                  clear H
                  go_wp2
                  go_roundg kj17
                  case measure => have := HJ3.out; have := HK2.out; have := HK3.out; have := HJ12.out; have := HJ17.out; omega
                  case rel => exact ⟨(wrap64 ((ji24) + 1)), (wrap64 (x9_3 + 1)), (by first | rfl | (simp; done) | (simp only [← hji24] <;> (first | rfl | simp)) | (simp [*]; done)), (by first | rfl | (simp; done) | (simp [*]; done)), H', ⟨by have := HJ3.out; have := HK2.out; have := HK3.out; have := HJ12.out; have := HJ17.out; omega⟩, ⟨by repeat (first | (with_reducible first | exact HB.out | apply below_alloc | apply pw_below_drewN | apply below_drew1) | exact HB.out)⟩⟩
                 ·rw [if_neg c23] at H
                  have c23b0 : decide (x7_3 < 0) = false := decide_eq_false c23
                  clear c23
                  obtain ⟨ji25, hji25⟩ : ∃ j_ : Int, (mx t206 t207) = j_ := ⟨_, rfl⟩
                  replace H : (if (wrap64 ((ji25) + 1)) < x7_3 then (spec_l13Least.l1 kj17 a0 a1 a2 (wrap64 ((ji25) + 1)) x8_2 (wrap64 (x9_3 + 1))) else (spec_l13Least.l1 kj17 a0 a1 a2 x7_3 x8_2 (wrap64 (x9_3 + 1)))) = some r := by first | (rw [hji25] at H; exact H) | (simp only [hji25] at H ⊢; exact H)
                  have hji25_ : (if t206 < t207 then t207 else t206) = ji25 := hji25
                  by_cases c26 : (wrap64 ((ji25) + 1)) < x7_3
                  ·rw [if_pos c26] at H
                   have c26b0 : decide ((wrap64 ((ji25) + 1)) < x7_3) = true := decide_eq_true c26
                   clear c26
                   have H' := Aside0.mk H
                   clear H
                   go_wp2
                   go_roundg kj17
                   case measure => have := HJ3.out; have := HK2.out; have := HK3.out; have := HJ12.out; have := HJ17.out; omega
                   case rel => exact ⟨(wrap64 ((ji25) + 1)), (wrap64 (x9_3 + 1)), (by first | rfl | (simp; done) | (simp only [← hji25] <;> (first | rfl | simp)) | (simp [*]; done)), (by first | rfl | (simp; done) | (simp [*]; done)), H', ⟨by have := HJ3.out; have := HK2.out; have := HK3.out; have := HJ12.out; have := HJ17.out; omega⟩, ⟨by repeat (first | (with_reducible first | exact HB.out | apply below_alloc | apply pw_below_drewN | apply below_drew1) | exact HB.out)⟩⟩
                  ·rw [if_neg c26] at H
                   have c26b0 : decide ((wrap64 ((ji25) + 1)) < x7_3) = false := decide_eq_false c26
                   clear c26
                   have H' := Aside0.mk H
                   clear H
                   go_wp2
                   go_roundg kj17
                   case measure => have := HJ3.out; have := HK2.out; have := HK3.out; have := HJ12.out; have := HJ17.out; omega
                   case rel => exact ⟨(x7_3), (wrap64 (x9_3 + 1)), (by first | rfl | (simp; done) | (simp [*]; done)), (by first | rfl | (simp; done) | (simp [*]; done)), H', ⟨by have := HJ3.out; have := HK2.out; have := HK3.out; have := HJ12.out; have := HJ17.out; omega⟩, ⟨by repeat (first | (with_reducible first | exact HB.out | apply below_alloc | apply pw_below_drewN | apply below_drew1) | exact HB.out)⟩⟩
          ·rw [if_neg c10] at H
           have c10b0 : decide (x9_3 < a0) = false := decide_eq_false c10
           clear c10
           have H' := Aside0.mk H
           clear H
           go_wp2
           go_roundg k3
           case measure => have := HJ3.out; have := HK2.out; have := HK3.out; omega
           case rel => exact ⟨(x7_3), (wrap64 (x8_2 + 1)), (by first | rfl | (simp; done) | (simp [*]; done)), (by first | rfl | (simp; done) | (simp [*]; done)), H', ⟨by have := HJ3.out; have := HK2.out; have := HK3.out; omega⟩, ⟨by repeat (first | (with_reducible first | exact HB.out | apply below_alloc | apply pw_below_drewN | apply below_drew1) | exact HB.out)⟩⟩
       ·rw [if_neg c9] at H
        have c9b0 : decide (x8_2 < a0) = false := decide_eq_false c9
        clear c9
        obtain rfl := Option.some.inj H
        go_wp2
        go_ret
        exact ⟨by first | rfl | (simp [errW_none, errW_some] <;> rfl) | (simp [*, errW_none, errW_some] <;> rfl), by repeat (first | (with_reducible first | exact HB.out | apply below_alloc | apply pw_below_drewN | apply below_drew1) | exact HB.out)⟩

/-! ### spec_LeastAsks: function 27 -/
def spec_LeastAsks.f (k : Nat) (a0 : Int) (a1 : Int) : Option (Int) := (spec_TableOk.f a0 a1).bind fun t208 => (if t208 = true then ((spec_l13Least.f k a0 a1 a0).bind fun t209 => (some t209)) else (some (-1)))
theorem spec_LeastAsks.mono : ∀ a0 a1 k, LeO (spec_LeastAsks.f k a0 a1) (spec_LeastAsks.f (k + 1) a0 a1) := by
 intro a0 a1 k
 unfold spec_LeastAsks.f
 repeat' first
   | (with_reducible exact spec_l13Least.mono _ _ _ _)
   | (with_reducible exact LeO.refl _)
   | (with_reducible exact LeO.none _)
   | (with_reducible refine LeO.ite ?_ ?_)
   | (with_reducible refine LeO.bind ?_ (fun _ => ?_))
   | exact spec_l13Least.mono _ _ _ _
   | exact LeO.none _
   | refine LeO.ite ?_ ?_
   | refine LeO.bind ?_ (fun _ => ?_)
set_option maxHeartbeats 8000000 in
set_option maxRecDepth 100000 in
theorem spec_LeastAsks.calls (k : Nat) (a0 : Int) (a1 : Int) (r : Int) (w : World) (h : spec_LeastAsks.f k a0 a1 = some r) :
  Calls Try.prog 27 #[.int .i64 a0, .int .i64 a1] w fun e w' => e = .returned (.int .i64 r) ∧ Below w.heap.size w w' := by
 have HB := Aside0.mk (Below.refl w.heap.size w)
 have H : ((spec_TableOk.f a0 a1).bind fun t208 => (if t208 = true then ((spec_l13Least.f k a0 a1 a0).bind fun t209 => (some t209)) else (some (-1)))) = some r := h
 clear h
 replace H := Option.bind_eq_some_iff.mp H
 obtain ⟨t208, A30, H⟩ := H
 replace H : (if t208 = true then ((spec_l13Least.f k a0 a1 a0).bind fun t209 => (some t209)) else (some (-1))) = some r := H
 have A3 := Aside0.mk A30
 clear A30
 by_cases c4 : t208 = true
 ·subst c4
  have H1 : ((spec_l13Least.f k a0 a1 a0).bind fun t209 => (some t209)) = some r := by rw [if_pos rfl] at H; exact H
  clear H
  have H := H1
  clear H1
  replace H := Option.bind_eq_some_iff.mp H
  obtain ⟨t209, A50, H⟩ := H
  replace H : (some t209) = some r := H
  have A5 := Aside0.mk A50
  clear A50
  obtain rfl := Option.some.inj H
  go_enter Try.func27, Try.ntmps27
  go_wp2_with (first | ((with_reducible refine gate_callee (f := 44) rfl ?_); refine goesL_ (some 7) rfl rfl Try.func44 (by kernel_rfl) rfl #[.int .i64 a0, .int .i64 a1] rfl (by (try simp only [List.map_toArray, List.map_cons, List.map_nil]); first | done | rfl | (simp only [List.length_drop, List.length_take]; rfl)) ?_; (with_reducible refine (spec_TableOk.calls a0 a1 true _ A3.out).mono ?_); rintro e w' ⟨rfl, ⟨nd, rfl⟩⟩; refine ⟨_, rfl, ?_⟩) | ((with_reducible refine gate_callee (f := 59) rfl ?_); refine goesL_ (some 12) rfl rfl Try.func59 (by kernel_rfl) rfl #[.int .i64 a0, .int .i64 a1, .int .i64 a0] rfl (by (try simp only [List.map_toArray, List.map_cons, List.map_nil]); first | done | rfl | (simp only [List.length_drop, List.length_take]; rfl)) ?_; (with_reducible refine (spec_l13Least.calls k a0 a1 a0 t209 _ A5.out).mono ?_); rintro e w6 ⟨rfl, hb⟩; refine ⟨_, rfl, ?_⟩; have n0_ := Aside0.mk (below_step (by repeat (first | (with_reducible first | exact HB.out | apply below_alloc | apply pw_below_drewN | apply below_drew1) | exact HB.out)) hb); clear HB; have HB := n0_; clear n0_; (try clear hb); (try clear hb2); (try clear hk); (try clear hi)))
  go_ret
  exact ⟨by first | rfl | (simp [errW_none, errW_some] <;> rfl) | (simp [*, errW_none, errW_some] <;> rfl), by repeat (first | (with_reducible first | exact HB.out | apply below_alloc | apply pw_below_drewN | apply below_drew1) | exact HB.out)⟩
 ·replace c4 := Bool.eq_false_iff.mpr c4
  subst c4
  have H1 : (some (-1)) = some r := by rw [if_neg (show ¬ (false = true) by decide)] at H; exact H
  clear H
  have H := H1
  clear H1
  obtain rfl := Option.some.inj H
  go_enter Try.func27, Try.ntmps27
  go_wp2_with (first | ((with_reducible refine gate_callee (f := 44) rfl ?_); refine goesL_ (some 7) rfl rfl Try.func44 (by kernel_rfl) rfl #[.int .i64 a0, .int .i64 a1] rfl (by (try simp only [List.map_toArray, List.map_cons, List.map_nil]); first | done | rfl | (simp only [List.length_drop, List.length_take]; rfl)) ?_; (with_reducible refine (spec_TableOk.calls a0 a1 false _ A3.out).mono ?_); rintro e w' ⟨rfl, ⟨nd, rfl⟩⟩; refine ⟨_, rfl, ?_⟩))
  go_ret
  exact ⟨by first | rfl | (simp [errW_none, errW_some] <;> rfl) | (simp [*, errW_none, errW_some] <;> rfl), by repeat (first | (with_reducible first | exact HB.out | apply below_alloc | apply pw_below_drewN | apply below_drew1) | exact HB.out)⟩

-- NOT PRINTED: function 60 (impl_leastAsks)

end Go.Proofs.Ytnmkifpifmdplaa.P

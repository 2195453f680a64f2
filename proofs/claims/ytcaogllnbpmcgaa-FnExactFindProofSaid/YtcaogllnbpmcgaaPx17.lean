/- Go's functions come to just the answers of the Lean functions told here. -/
import Derived.Test.YtcaogllnbpmcgaaPx16
namespace Go.Proofs.Ytcaogllnbpmcgaa.P
open Go.RowKit Go.Proofs.YtcaogllnbpmcgaaW.PrintWords Go.Proofs.YtcaogllnbpmcgaaW.PrintLast Go.Proofs.YtcaogllnbpmcgaaW.PrintMore
attribute [local go_sem] max2_int min2_int max_two min_two max_three min_three max_four min_four
set_option linter.unusedVariables false
set_option linter.unusedSimpArgs false

/-! ### spec_l11Grow: function 78 -/
mutual
def spec_l11Grow.l0 : Nat → Int → List (S38) → List (S47) → List Int → List (S93) → Int → Int → Option ((List (S93)) × Int × Bool)
 | 0, _, _, _, _, _, _, _ => none
 | k + 1, x0, x1, x2, x3, x4, x13, x14 => if x14 < (x1.length : Int) then ((spec_l11Closes.f k x0 x1 x2 (wrap64 ((-2) - x14)) x3).bind fun t246 => (if t246 = true then (some (x4, wrap64 ((-2) - x14), true)) else (spec_l11Grow.l0 k x0 x1 x2 x3 x4 x13 (wrap64 (x14 + 1))))) else (spec_l11Grow.l1 k x0 x1 x2 x3 x4 x13 (wrap64 (x0 - 1)))
def spec_l11Grow.l1 : Nat → Int → List (S38) → List (S47) → List Int → List (S93) → Int → Int → Option ((List (S93)) × Int × Bool)
 | 0, _, _, _, _, _, _, _ => none
 | k + 1, x0, x1, x2, x3, x4, x13, x15 => if x15 ≥ 0 then (if 0 ≤ x15 then (if x15 < (x3.length : Int) then (if (rd x3 x15) < 0 then (spec_l11Grow.l1 k x0 x1 x2 x3 x4 x15 (wrap64 (x15 - 1))) else (spec_l11Grow.l1 k x0 x1 x2 x3 x4 x13 (wrap64 (x15 - 1)))) else (none)) else (none)) else (if x13 < 0 then (some (x4, (-1), false)) else ((some (([] : List (S93)) : List (S93))).bind fun y248 => (if y248.length + x4.length < 5864062014805 then ((some (y248 ++ x4 : List (S93))).bind fun y251 => (if y251.length < 5864062014805 then ((some (([] : List Int) : List Int)).bind fun y257 => (if y257.length + x3.length < 17592186044416 then ((some (y257 ++ x3 : List Int)).bind fun y260 => (if 0 ≤ x13 then (if x13 < (y260.length : Int) then ((some (([] : List Int) : List Int)).bind fun y264 => (if y264.length + x3.length < 17592186044416 then ((some (y264 ++ x3 : List Int)).bind fun y267 => (if x13 < (y267.length : Int) then ((spec_l11Grow.f k x0 x1 x2 (y260.set (x13 : Int).toNat 0) (y251 ++ [(⟨x13, (-1), (-1)⟩ : S93)])).bind fun bt271 => ((spec_l11Grow.f k x0 x1 x2 (y267.set (x13 : Int).toNat 1) bt271.1).bind fun bt276 => (if 0 ≤ (x4.length : Int) then (if (x4.length : Int) < (bt276.1.length : Int) then ((some (bt276.1.set ((x4.length : Int) : Int).toNat (⟨x13, bt271.2.1, bt276.2.1⟩ : S93) : List (S93))).bind fun y281 => (if bt271.2.2 = true then (some (y281, (x4.length : Int), bt276.2.2)) else (some (y281, (x4.length : Int), false)))) else (none)) else (none)))) else (none))) else (none))) else (none)) else (none))) else (none))) else (none))) else (none))))
def spec_l11Grow.f : Nat → Int → List (S38) → List (S47) → List Int → List (S93) → Option ((List (S93)) × Int × Bool)
 | 0, _, _, _, _, _ => none
 | k + 1, a0, l1, l2, l3, l4 => (spec_l11Closes.f k a0 l1 l2 (-1) l3).bind fun t245 => (if t245 = true then (some (l4, (-1), true)) else (spec_l11Grow.l0 k a0 l1 l2 l3 l4 (-1) 0))
end
theorem spec_l11Grow.mono_l : ∀ k, (∀ y0 y1 y2 y3 y4, LeO (spec_l11Grow.f k y0 y1 y2 y3 y4) (spec_l11Grow.f (k + 1) y0 y1 y2 y3 y4)) ∧ (∀ y0 y1 y2 y3 y4 y5 y6, LeO (spec_l11Grow.l0 k y0 y1 y2 y3 y4 y5 y6) (spec_l11Grow.l0 (k + 1) y0 y1 y2 y3 y4 y5 y6)) ∧ (∀ y0 y1 y2 y3 y4 y5 y6, LeO (spec_l11Grow.l1 k y0 y1 y2 y3 y4 y5 y6) (spec_l11Grow.l1 (k + 1) y0 y1 y2 y3 y4 y5 y6))
 | 0 => ⟨fun _ _ _ _ _ r h => by simp [spec_l11Grow.f] at h, fun _ _ _ _ _ _ _ r h => by simp [spec_l11Grow.l0] at h, fun _ _ _ _ _ _ _ r h => by simp [spec_l11Grow.l1] at h⟩
 | k + 1 => by
  obtain ⟨ih0, ih1, ih2⟩ := spec_l11Grow.mono_l k
  refine ⟨?_, ?_, ?_⟩
  ·intro y0 y1 y2 y3 y4
   unfold spec_l11Grow.f
   repeat' first
   | (with_reducible exact ih0 _ _ _ _ _)
   | (with_reducible exact ih1 _ _ _ _ _ _ _)
   | (with_reducible exact ih2 _ _ _ _ _ _ _)
   | (with_reducible exact spec_l11Closes.mono _ _ _ _ _ _)
   | (with_reducible exact LeO.refl _)
   | (with_reducible exact LeO.none _)
   | (with_reducible refine LeO.ite ?_ ?_)
   | (with_reducible refine LeO.bind ?_ (fun _ => ?_))
  ·intro y0 y1 y2 y3 y4 y5 y6
   unfold spec_l11Grow.l0
   repeat' first
   | (with_reducible exact ih0 _ _ _ _ _)
   | (with_reducible exact ih1 _ _ _ _ _ _ _)
   | (with_reducible exact ih2 _ _ _ _ _ _ _)
   | (with_reducible exact spec_l11Closes.mono _ _ _ _ _ _)
   | (with_reducible exact LeO.refl _)
   | (with_reducible exact LeO.none _)
   | (with_reducible refine LeO.ite ?_ ?_)
   | (with_reducible refine LeO.bind ?_ (fun _ => ?_))
  ·intro y0 y1 y2 y3 y4 y5 y6
   unfold spec_l11Grow.l1
   repeat' first
   | (with_reducible exact ih0 _ _ _ _ _)
   | (with_reducible exact ih1 _ _ _ _ _ _ _)
   | (with_reducible exact ih2 _ _ _ _ _ _ _)
   | (with_reducible exact spec_l11Closes.mono _ _ _ _ _ _)
   | (with_reducible exact LeO.refl _)
   | (with_reducible exact LeO.none _)
   | (with_reducible refine LeO.ite ?_ ?_)
   | (with_reducible refine LeO.bind ?_ (fun _ => ?_))
theorem spec_l11Grow.mono : ∀ a0 a1 a2 a3 a4 k, LeO (spec_l11Grow.f k a0 a1 a2 a3 a4) (spec_l11Grow.f (k + 1) a0 a1 a2 a3 a4) := by
 intro a0 a1 a2 a3 a4 k
 obtain ⟨ih0, ih1, ih2⟩ := spec_l11Grow.mono_l k
 exact ih0 a0 a1 a2 a3 a4
set_option maxHeartbeats 8000000 in
set_option maxRecDepth 100000 in
theorem spec_l11Grow.calls (k : Nat) : ∀ (a0 : Int) (A1 : Option Addr) (c1 : Nat) (l1 : List (S38)) (A2 : Option Addr) (c2 : Nat) (l2 : List (S47)) (A3 : Option Addr) (c3 : Nat) (l3 : List Int) (P4_ : Nat → Prop) (u9000_ : Value) (l4 : List (S93)) (r1 : List (S93)) (r2 : Int) (r3 : Bool) (w0 w : World) (hB : Below w0.heap.size w0 w) (hr1 : ∀ W_, Kept w W_ (fun k_ => P4_ k_) → Kd.C k38 W_ A1 l1.length l1) (hc1 : l1.length ≤ c1) (hr2 : ∀ W_, Kept w W_ (fun k_ => P4_ k_) → Kd.C k47 W_ A2 l2.length l2) (hc2 : l2.length ≤ c2) (hr3 : ∀ W_, Kept w W_ (fun k_ => P4_ k_) → Kd.C (Kd.int .i64) W_ A3 l3.length l3) (hc3 : l3.length ≤ c3) (ho4 : Kd.R k93 93 w w0.heap.size P4_ u9000_ l4) (h : spec_l11Grow.f k a0 l1 l2 l3 l4 = some (r1, r2, r3)),
  Calls Try.prog 78 #[.int .i64 a0, .slice A1 l1.length c1, .slice A2 l2.length c2, .slice A3 l3.length c3, u9000_] w fun e w' => ∃ v0_ : Value, e = .returned (.tuple #[v0_, .int .i64 r2, .bool r3]) ∧ Kd.R k93 93 w' w0.heap.size (fun k_ => (P4_ k_ ∨ w.heap.size ≤ k_)) v0_ r1 ∧ Below w0.heap.size w0 w' ∧ Kept w w' (fun k_ => P4_ k_) := by
 induction k using Nat.strongRecOn with
 | _ k ih =>
 intro a0 A1 c1 l1 A2 c2 l2 A3 c3 l3 P4_ u9000_ l4 r1 r2 r3 w0 w hB hr1 hc1 hr2 hc2 hr3 hc3 ho4 h
 cases k with
 | zero => exact absurd h (by simp [spec_l11Grow.f])
 | succ k =>
 simp only [spec_l11Grow.f] at h
 have hu93 := Try.underlying93
 have HR1 := mk_ hr1
 have HC1 := mk_ hc1
 clear hr1 hc1
 have HR2 := mk_ hr2
 have HC2 := mk_ hc2
 clear hr2 hc2
 have HR3 := mk_ hr3
 have HC3 := mk_ hc3
 clear hr3 hc3
 have HO4 := mk_ (show Kd.R k93 93 w w0.heap.size (fun k_ => (P4_ k_ ∨ w.heap.size ≤ k_)) u9000_ l4 from Kd.R_mono ho4 (fun k_ hk => (.inl hk)))
 have HK := mk_ (Kept.refl w (fun k_ => P4_ k_))
 have HW0 := mk_ hB.size
 have HB := mk_ hB
 clear hB
 have H : ((spec_l11Closes.f k a0 l1 l2 (-1) l3).bind fun t245 => (if t245 = true then (some (l4, (-1), true)) else (spec_l11Grow.l0 k a0 l1 l2 l3 l4 (-1) 0))) = some (r1, r2, r3) := h
 clear h
 replace H := Option.bind_eq_some_iff.mp H
 obtain ⟨t245, A60, H⟩ := H
 try dsimp only at H
 have A6 := mk_ A60
 clear A60
 by_cases c7 : t245 = true
 ·subst c7
  rw [if_pos rfl] at H
  simp only [Option.some.injEq, Prod.mk.injEq] at H
  obtain ⟨rfl, rfl, rfl⟩ := H
  go_enter Try.func78, Try.ntmps78
  go_wp2_with (first | ((with_reducible refine gate_callee (f := 95) rfl ?_); refine goesL_ (some 27) rfl rfl Try.func95 (by kernel_rfl) rfl #[.int .i64 a0, .slice A1 l1.length c1, .slice A2 l2.length c2, .int .i64 (-1), .slice A3 l3.length c3] rfl gl_ ?_; (with_reducible refine (spec_l11Closes.calls k a0 _ _ l1 _ _ l2 (-1) _ _ l3 true _ ?side1 ?side2 ?side3 ?side4 ?side5 ?side6 A6.out).mono ?_); (case side1 => exact Kd.C_kept_now HR1.out (by repeat (first | (with_reducible first | exact HK.out | apply Kept.alloc | apply Kept.drewN | apply Kept.drew) | exact HK.out))); (case side2 => exact HC1.out); (case side3 => exact Kd.C_kept_now HR2.out (by repeat (first | (with_reducible first | exact HK.out | apply Kept.alloc | apply Kept.drewN | apply Kept.drew) | exact HK.out))); (case side4 => exact HC2.out); (case side5 => exact Kd.C_kept_now HR3.out (by repeat (first | (with_reducible first | exact HK.out | apply Kept.alloc | apply Kept.drewN | apply Kept.drew) | exact HK.out))); (case side6 => exact HC3.out); rintro e w8 ⟨rfl, hb⟩; refine ⟨_, rfl, ?_⟩; replace HO4 := mk_ (Kd.R_below (Kd.R_below HO4.out lt_) hb); replace HK := mk_ (Kept.below (S := (fun k_ => P4_ k_)) (by repeat (first | (with_reducible first | exact HK.out | apply Kept.alloc | apply Kept.drewN | apply Kept.drew) | exact HK.out)) hb); replace HB := mk_ (below_step (below_at HB.out) hb); (try clear hb); (try clear hb2); (try clear hk); (try clear hi)))
  go_ret3
  exact ⟨_, er_, by (with_reducible repeat (first | apply Kd.R_alloc | apply Kd.R_drewN | apply Kd.R_drew)); exact HO4.out, below_at HB.out, by repeat (first | (with_reducible first | exact HK.out | apply Kept.alloc | apply Kept.drewN | apply Kept.drew) | exact HK.out)⟩
 replace c7 := Bool.eq_false_iff.mpr c7
 subst c7
 rw [if_neg (show ¬ (false = true) by decide)] at H
 have H' := mk_ H
 clear H
 go_enter Try.func78, Try.ntmps78
 go_wp2_with (first | ((with_reducible refine gate_callee (f := 95) rfl ?_); refine goesL_ (some 27) rfl rfl Try.func95 (by kernel_rfl) rfl #[.int .i64 a0, .slice A1 l1.length c1, .slice A2 l2.length c2, .int .i64 (-1), .slice A3 l3.length c3] rfl gl_ ?_; (with_reducible refine (spec_l11Closes.calls k a0 _ _ l1 _ _ l2 (-1) _ _ l3 false _ ?side1 ?side2 ?side3 ?side4 ?side5 ?side6 A6.out).mono ?_); (case side1 => exact Kd.C_kept_now HR1.out (by repeat (first | (with_reducible first | exact HK.out | apply Kept.alloc | apply Kept.drewN | apply Kept.drew) | exact HK.out))); (case side2 => exact HC1.out); (case side3 => exact Kd.C_kept_now HR2.out (by repeat (first | (with_reducible first | exact HK.out | apply Kept.alloc | apply Kept.drewN | apply Kept.drew) | exact HK.out))); (case side4 => exact HC2.out); (case side5 => exact Kd.C_kept_now HR3.out (by repeat (first | (with_reducible first | exact HK.out | apply Kept.alloc | apply Kept.drewN | apply Kept.drew) | exact HK.out))); (case side6 => exact HC3.out); rintro e w9 ⟨rfl, hb⟩; refine ⟨_, rfl, ?_⟩; replace HO4 := mk_ (Kd.R_below (Kd.R_below HO4.out lt_) hb); replace HK := mk_ (Kept.below (S := (fun k_ => P4_ k_)) (by repeat (first | (with_reducible first | exact HK.out | apply Kept.alloc | apply Kept.drewN | apply Kept.drew) | exact HK.out)) hb); replace HB := mk_ (below_step (below_at HB.out) hb); (try clear hb); (try clear hb2); (try clear hk); (try clear hi)))
 go_loopg [14] k (fun kq v14 w' => ∃ (x14_1 : Int), v14 = .int .i64 x14_1 ∧ Aside0 (spec_l11Grow.l0 kq a0 l1 l2 l3 l4 (-1) x14_1 = some (r1, r2, r3)) ∧ Aside0 (kq ≤ k) ∧ Aside0 (Kd.R k93 93 w' w0.heap.size (fun k_ => (P4_ k_ ∨ w.heap.size ≤ k_)) u9000_ l4) ∧ Aside0 (Kept w w' (fun k_ => P4_ k_)) ∧ Aside0 (Below w0.heap.size w0 w'))
 case atStart => exact ⟨(0), (by first | rfl | (simp; done) | (simp [*]; done)), H', ⟨Nat.le_refl _⟩, ⟨Kd.R_below HO4.out lt_⟩, ⟨by repeat (first | (with_reducible first | exact HK.out | apply Kept.alloc | apply Kept.drewN | apply Kept.drew) | exact HK.out)⟩, ⟨below_at HB.out⟩⟩
 clear H'
 try clear c1
 try clear c2
 try clear p2
 try clear c3
 try clear c7
 try clear c9
 obtain ⟨x14_1, rfl, HA, HK1, HO_4, HK, HB⟩ := hrel
 cases gk with
 | zero => exact absurd HA.out (by simp [spec_l11Grow.l0])
 | succ k1 =>
  have H := HA.out
  clear HA
  simp only [spec_l11Grow.l0] at H
  by_cases c10 : x14_1 < (l1.length : Int)
  ·rw [if_pos c10] at H
   have c10b0 : decide (x14_1 < (l1.length : Int)) = true := decide_eq_true c10
   clear c10
   replace H := Option.bind_eq_some_iff.mp H
   obtain ⟨t246, A110, H⟩ := H
   try dsimp only at H
   have A11 := mk_ A110
   clear A110
   by_cases c12 : t246 = true
   ·subst c12
    rw [if_pos rfl] at H
    simp only [Option.some.injEq, Prod.mk.injEq] at H
    obtain ⟨rfl, rfl, rfl⟩ := H
    go_wp2_with (first | ((with_reducible refine gate_callee (f := 95) rfl ?_); refine goesL_ (some 41) rfl rfl Try.func95 (by kernel_rfl) rfl #[.int .i64 a0, .slice A1 l1.length c1, .slice A2 l2.length c2, .int .i64 (wrap64 ((-2) - x14_1)), .slice A3 l3.length c3] rfl gl_ ?_; (with_reducible refine (spec_l11Closes.calls k1 a0 _ _ l1 _ _ l2 (wrap64 ((-2) - x14_1)) _ _ l3 true _ ?side1 ?side2 ?side3 ?side4 ?side5 ?side6 A11.out).mono ?_); (case side1 => exact Kd.C_kept_now HR1.out (by repeat (first | (with_reducible first | exact HK.out | apply Kept.alloc | apply Kept.drewN | apply Kept.drew) | exact HK.out))); (case side2 => exact HC1.out); (case side3 => exact Kd.C_kept_now HR2.out (by repeat (first | (with_reducible first | exact HK.out | apply Kept.alloc | apply Kept.drewN | apply Kept.drew) | exact HK.out))); (case side4 => exact HC2.out); (case side5 => exact Kd.C_kept_now HR3.out (by repeat (first | (with_reducible first | exact HK.out | apply Kept.alloc | apply Kept.drewN | apply Kept.drew) | exact HK.out))); (case side6 => exact HC3.out); rintro e w13 ⟨rfl, hb⟩; refine ⟨_, rfl, ?_⟩; replace HO_4 := mk_ (Kd.R_below (Kd.R_below HO_4.out lt_) hb); replace HK := mk_ (Kept.below (S := (fun k_ => P4_ k_)) (by repeat (first | (with_reducible first | exact HK.out | apply Kept.alloc | apply Kept.drewN | apply Kept.drew) | exact HK.out)) hb); replace HB := mk_ (below_step (below_at HB.out) hb); (try clear hb); (try clear hb2); (try clear hk); (try clear hi)))
    go_ret3
    exact ⟨_, er_, by (with_reducible repeat (first | apply Kd.R_alloc | apply Kd.R_drewN | apply Kd.R_drew)); exact HO_4.out, below_at HB.out, by repeat (first | (with_reducible first | exact HK.out | apply Kept.alloc | apply Kept.drewN | apply Kept.drew) | exact HK.out)⟩
   replace c12 := Bool.eq_false_iff.mpr c12
   subst c12
   rw [if_neg (show ¬ (false = true) by decide)] at H
   have H' := mk_ H
   clear H
   go_wp2_with (first | ((with_reducible refine gate_callee (f := 95) rfl ?_); refine goesL_ (some 41) rfl rfl Try.func95 (by kernel_rfl) rfl #[.int .i64 a0, .slice A1 l1.length c1, .slice A2 l2.length c2, .int .i64 (wrap64 ((-2) - x14_1)), .slice A3 l3.length c3] rfl gl_ ?_; (with_reducible refine (spec_l11Closes.calls k1 a0 _ _ l1 _ _ l2 (wrap64 ((-2) - x14_1)) _ _ l3 false _ ?side1 ?side2 ?side3 ?side4 ?side5 ?side6 A11.out).mono ?_); (case side1 => exact Kd.C_kept_now HR1.out (by repeat (first | (with_reducible first | exact HK.out | apply Kept.alloc | apply Kept.drewN | apply Kept.drew) | exact HK.out))); (case side2 => exact HC1.out); (case side3 => exact Kd.C_kept_now HR2.out (by repeat (first | (with_reducible first | exact HK.out | apply Kept.alloc | apply Kept.drewN | apply Kept.drew) | exact HK.out))); (case side4 => exact HC2.out); (case side5 => exact Kd.C_kept_now HR3.out (by repeat (first | (with_reducible first | exact HK.out | apply Kept.alloc | apply Kept.drewN | apply Kept.drew) | exact HK.out))); (case side6 => exact HC3.out); rintro e w14 ⟨rfl, hb⟩; refine ⟨_, rfl, ?_⟩; replace HO_4 := mk_ (Kd.R_below (Kd.R_below HO_4.out lt_) hb); replace HK := mk_ (Kept.below (S := (fun k_ => P4_ k_)) (by repeat (first | (with_reducible first | exact HK.out | apply Kept.alloc | apply Kept.drewN | apply Kept.drew) | exact HK.out)) hb); replace HB := mk_ (below_step (below_at HB.out) hb); (try clear hb); (try clear hb2); (try clear hk); (try clear hi)))
   go_roundg k1
   case measure => have := HK1.out; omega
   case rel => exact ⟨(wrap64 (x14_1 + 1)), (by first | rfl | (simp; done) | (simp [*]; done)), H', ⟨by have := HK1.out; omega⟩, ⟨Kd.R_below HO_4.out lt_⟩, ⟨by repeat (first | (with_reducible first | exact HK.out | apply Kept.alloc | apply Kept.drewN | apply Kept.drew) | exact HK.out)⟩, ⟨below_at HB.out⟩⟩
  rw [if_neg c10] at H
  have c10b0 : decide (x14_1 < (l1.length : Int)) = false := decide_eq_false c10
  clear c10
  have H' := mk_ H
  clear H
  go_wp2
  go_loopg [13, 15] k1 (fun kq v13 v15 w' => ∃ (x13_2 : Int) (x15_2 : Int), v13 = .int .i64 x13_2 ∧ v15 = .int .i64 x15_2 ∧ Aside0 (spec_l11Grow.l1 kq a0 l1 l2 l3 l4 x13_2 x15_2 = some (r1, r2, r3)) ∧ Aside0 (kq ≤ k1) ∧ Aside0 (Kd.R k93 93 w' w0.heap.size (fun k_ => (P4_ k_ ∨ w.heap.size ≤ k_)) u9000_ l4) ∧ Aside0 (Kept w w' (fun k_ => P4_ k_)) ∧ Aside0 (Below w0.heap.size w0 w'))
  case atStart => exact ⟨((-1)), (wrap64 (a0 - 1)), (by first | rfl | (simp; done) | (simp [*]; done)), (by first | rfl | (simp; done) | (simp [*]; done)), H', ⟨Nat.le_refl _⟩, ⟨Kd.R_below HO_4.out lt_⟩, ⟨by repeat (first | (with_reducible first | exact HK.out | apply Kept.alloc | apply Kept.drewN | apply Kept.drew) | exact HK.out)⟩, ⟨below_at HB.out⟩⟩
  clear H'
  try clear c1
  try clear c2
  try clear p2
  try clear c3
  try clear p6
  try clear c7
  try clear c9
  try clear c10
  try clear c10b0
  try clear c12
  try clear p2
  obtain ⟨x13_2, x15_2, rfl, rfl, HA, HK2, HO_4, HK, HB⟩ := hrel
  cases gk with
  | zero => exact absurd HA.out (by simp [spec_l11Grow.l1])
  | succ k2 =>
   have H := HA.out
   clear HA
   simp only [spec_l11Grow.l1] at H
   by_cases c15 : x15_2 ≥ 0
   ·rw [if_pos c15] at H
    have c15b0 : decide (0 ≤ x15_2) = true := decide_eq_true c15
    clear c15
    by_cases c16 : 0 ≤ x15_2
    rotate_left
    ·rw [if_neg c16] at H
     exact absurd H (by simp)
    rw [if_pos c16] at H
    have c16b0 : decide (0 ≤ x15_2) = true := decide_eq_true c16
    clear c16
    by_cases c17 : x15_2 < (l3.length : Int)
    rotate_left
    ·rw [if_neg c17] at H
     exact absurd H (by simp)
    rw [if_pos c17] at H
    have c17b0 : decide (x15_2 < (l3.length : Int)) = true := decide_eq_true c17
    clear c17
    by_cases c18 : (rd l3 x15_2) < 0
    ·rw [if_pos c18] at H
     have c18b0 : decide ((rd l3 x15_2) < 0) = true := decide_eq_true c18
     clear c18
     have H' := mk_ H
     clear H
     have p247 : 0 ≤ (x15_2 : Int) := oa_
     have q247 : x15_2 < (l3.length : Int) := oa_
     obtain ⟨ad247, e247, hx247_0⟩ := Kd.at_int (Kd.C_kept_now HR3.out HK.out) x15_2 p247 q247
     cases e247
     replace p247 := eq_true p247
     replace q247 := eq_true q247
     go_wp2
     go_roundg k2
     case measure => have := HK1.out; have := HK2.out; omega
     case rel => exact ⟨(x15_2), (wrap64 (x15_2 - 1)), (by first | rfl | (simp; done) | (simp [*]; done)), (by first | rfl | (simp; done) | (simp [*]; done)), H', ⟨by have := HK1.out; have := HK2.out; omega⟩, ⟨Kd.R_below HO_4.out lt_⟩, ⟨by repeat (first | (with_reducible first | exact HK.out | apply Kept.alloc | apply Kept.drewN | apply Kept.drew) | exact HK.out)⟩, ⟨below_at HB.out⟩⟩
    rw [if_neg c18] at H
    have c18b0 : decide ((rd l3 x15_2) < 0) = false := decide_eq_false c18
    clear c18
    have H' := mk_ H
    clear H
    have p247 : 0 ≤ (x15_2 : Int) := oa_
    have q247 : x15_2 < (l3.length : Int) := oa_
    obtain ⟨ad247, e247, hx247_0⟩ := Kd.at_int (Kd.C_kept_now HR3.out HK.out) x15_2 p247 q247
    cases e247
    replace p247 := eq_true p247
    replace q247 := eq_true q247
    go_wp2
    go_roundg k2
    case measure => have := HK1.out; have := HK2.out; omega
    case rel => exact ⟨(x13_2), (wrap64 (x15_2 - 1)), (by first | rfl | (simp; done) | (simp [*]; done)), (by first | rfl | (simp; done) | (simp [*]; done)), H', ⟨by have := HK1.out; have := HK2.out; omega⟩, ⟨Kd.R_below HO_4.out lt_⟩, ⟨by repeat (first | (with_reducible first | exact HK.out | apply Kept.alloc | apply Kept.drewN | apply Kept.drew) | exact HK.out)⟩, ⟨below_at HB.out⟩⟩
   rw [if_neg c15] at H
   have c15b0 : decide (0 ≤ x15_2) = false := decide_eq_false c15
   clear c15
   by_cases c19 : x13_2 < 0
   ·rw [if_pos c19] at H
    have c19b0 : decide (x13_2 < 0) = true := decide_eq_true c19
    clear c19
    simp only [Option.some.injEq, Prod.mk.injEq] at H
    obtain ⟨rfl, rfl, rfl⟩ := H
    go_wp2
    go_ret3
    exact ⟨_, er_, by (with_reducible repeat (first | apply Kd.R_alloc | apply Kd.R_drewN | apply Kd.R_drew)); exact HO_4.out, below_at HB.out, by repeat (first | (with_reducible first | exact HK.out | apply Kept.alloc | apply Kept.drewN | apply Kept.drew) | exact HK.out)⟩
   rw [if_neg c19] at H
   have c19b0 : decide (x13_2 < 0) = false := decide_eq_false c19
   clear c19
   obtain ⟨y248, hy248⟩ : ∃ y_ : List (S93), y_ = (([] : List (S93))) := ⟨_, rfl⟩
   replace H : (if y248.length + l4.length < 5864062014805 then ((some (y248 ++ l4 : List (S93))).bind fun y251 => (if y251.length < 5864062014805 then ((some (([] : List Int) : List Int)).bind fun y257 => (if y257.length + l3.length < 17592186044416 then ((some (y257 ++ l3 : List Int)).bind fun y260 => (if 0 ≤ x13_2 then (if x13_2 < (y260.length : Int) then ((some (([] : List Int) : List Int)).bind fun y264 => (if y264.length + l3.length < 17592186044416 then ((some (y264 ++ l3 : List Int)).bind fun y267 => (if x13_2 < (y267.length : Int) then ((spec_l11Grow.f k2 a0 l1 l2 (y260.set (x13_2 : Int).toNat 0) (y251 ++ [(⟨x13_2, (-1), (-1)⟩ : S93)])).bind fun bt271 => ((spec_l11Grow.f k2 a0 l1 l2 (y267.set (x13_2 : Int).toNat 1) bt271.1).bind fun bt276 => (if 0 ≤ (l4.length : Int) then (if (l4.length : Int) < (bt276.1.length : Int) then ((some (bt276.1.set ((l4.length : Int) : Int).toNat (⟨x13_2, bt271.2.1, bt276.2.1⟩ : S93) : List (S93))).bind fun y281 => (if bt271.2.2 = true then (some (y281, (l4.length : Int), bt276.2.2)) else (some (y281, (l4.length : Int), false)))) else (none)) else (none)))) else (none))) else (none))) else (none)) else (none))) else (none))) else (none))) else (none)) = some (r1, r2, r3) := by first | (rw [hy248]; exact H) | exact H
   have Ny248 := mk_ hy248
   clear hy248
   by_cases c20 : y248.length + l4.length < 5864062014805
   rotate_left
   ·rw [if_neg c20] at H
    exact absurd H (by simp)
   rw [if_pos c20] at H
   have LMc20 := mk_ c20
   clear c20
   obtain ⟨y251, hy251⟩ : ∃ y_ : List (S93), y_ = (y248 ++ l4) := ⟨_, rfl⟩
   replace H : (if y251.length < 5864062014805 then ((some (([] : List Int) : List Int)).bind fun y257 => (if y257.length + l3.length < 17592186044416 then ((some (y257 ++ l3 : List Int)).bind fun y260 => (if 0 ≤ x13_2 then (if x13_2 < (y260.length : Int) then ((some (([] : List Int) : List Int)).bind fun y264 => (if y264.length + l3.length < 17592186044416 then ((some (y264 ++ l3 : List Int)).bind fun y267 => (if x13_2 < (y267.length : Int) then ((spec_l11Grow.f k2 a0 l1 l2 (y260.set (x13_2 : Int).toNat 0) (y251 ++ [(⟨x13_2, (-1), (-1)⟩ : S93)])).bind fun bt271 => ((spec_l11Grow.f k2 a0 l1 l2 (y267.set (x13_2 : Int).toNat 1) bt271.1).bind fun bt276 => (if 0 ≤ (l4.length : Int) then (if (l4.length : Int) < (bt276.1.length : Int) then ((some (bt276.1.set ((l4.length : Int) : Int).toNat (⟨x13_2, bt271.2.1, bt276.2.1⟩ : S93) : List (S93))).bind fun y281 => (if bt271.2.2 = true then (some (y281, (l4.length : Int), bt276.2.2)) else (some (y281, (l4.length : Int), false)))) else (none)) else (none)))) else (none))) else (none))) else (none)) else (none))) else (none))) else (none)) = some (r1, r2, r3) := by first | (rw [hy251]; exact H) | exact H
   have Ny251 := mk_ hy251
   clear hy251
   by_cases c21 : y251.length < 5864062014805
   rotate_left
   ·rw [if_neg c21] at H
    exact absurd H (by simp)
   rw [if_pos c21] at H
   have LMc21 := mk_ c21
   clear c21
   obtain ⟨y254, hy254⟩ : ∃ y_ : List (S93), y_ = (y251 ++ [(⟨x13_2, (-1), (-1)⟩ : S93)]) := ⟨_, rfl⟩
   replace H : ((some (([] : List Int) : List Int)).bind fun y257 => (if y257.length + l3.length < 17592186044416 then ((some (y257 ++ l3 : List Int)).bind fun y260 => (if 0 ≤ x13_2 then (if x13_2 < (y260.length : Int) then ((some (([] : List Int) : List Int)).bind fun y264 => (if y264.length + l3.length < 17592186044416 then ((some (y264 ++ l3 : List Int)).bind fun y267 => (if x13_2 < (y267.length : Int) then ((spec_l11Grow.f k2 a0 l1 l2 (y260.set (x13_2 : Int).toNat 0) y254).bind fun bt271 => ((spec_l11Grow.f k2 a0 l1 l2 (y267.set (x13_2 : Int).toNat 1) bt271.1).bind fun bt276 => (if 0 ≤ (l4.length : Int) then (if (l4.length : Int) < (bt276.1.length : Int) then ((some (bt276.1.set ((l4.length : Int) : Int).toNat (⟨x13_2, bt271.2.1, bt276.2.1⟩ : S93) : List (S93))).bind fun y281 => (if bt271.2.2 = true then (some (y281, (l4.length : Int), bt276.2.2)) else (some (y281, (l4.length : Int), false)))) else (none)) else (none)))) else (none))) else (none))) else (none)) else (none))) else (none))) = some (r1, r2, r3) := by first | (rw [hy254]; exact H) | exact H
   have Ny254 := mk_ hy254
   clear hy254
   obtain ⟨y257, hy257⟩ : ∃ y_ : List Int, y_ = (([] : List Int)) := ⟨_, rfl⟩
   replace H : (if y257.length + l3.length < 17592186044416 then ((some (y257 ++ l3 : List Int)).bind fun y260 => (if 0 ≤ x13_2 then (if x13_2 < (y260.length : Int) then ((some (([] : List Int) : List Int)).bind fun y264 => (if y264.length + l3.length < 17592186044416 then ((some (y264 ++ l3 : List Int)).bind fun y267 => (if x13_2 < (y267.length : Int) then ((spec_l11Grow.f k2 a0 l1 l2 (y260.set (x13_2 : Int).toNat 0) y254).bind fun bt271 => ((spec_l11Grow.f k2 a0 l1 l2 (y267.set (x13_2 : Int).toNat 1) bt271.1).bind fun bt276 => (if 0 ≤ (l4.length : Int) then (if (l4.length : Int) < (bt276.1.length : Int) then ((some (bt276.1.set ((l4.length : Int) : Int).toNat (⟨x13_2, bt271.2.1, bt276.2.1⟩ : S93) : List (S93))).bind fun y281 => (if bt271.2.2 = true then (some (y281, (l4.length : Int), bt276.2.2)) else (some (y281, (l4.length : Int), false)))) else (none)) else (none)))) else (none))) else (none))) else (none)) else (none))) else (none)) = some (r1, r2, r3) := by first | (rw [hy257]; exact H) | exact H
   have Ny257 := mk_ hy257
   clear hy257
   by_cases c22 : y257.length + l3.length < 17592186044416
   rotate_left
   ·rw [if_neg c22] at H
    exact absurd H (by simp)
   rw [if_pos c22] at H
   have LMc22 := mk_ c22
   clear c22
   obtain ⟨y260, hy260⟩ : ∃ y_ : List Int, y_ = (y257 ++ l3) := ⟨_, rfl⟩
   replace H : (if 0 ≤ x13_2 then (if x13_2 < (y260.length : Int) then ((some (([] : List Int) : List Int)).bind fun y264 => (if y264.length + l3.length < 17592186044416 then ((some (y264 ++ l3 : List Int)).bind fun y267 => (if x13_2 < (y267.length : Int) then ((spec_l11Grow.f k2 a0 l1 l2 (y260.set (x13_2 : Int).toNat 0) y254).bind fun bt271 => ((spec_l11Grow.f k2 a0 l1 l2 (y267.set (x13_2 : Int).toNat 1) bt271.1).bind fun bt276 => (if 0 ≤ (l4.length : Int) then (if (l4.length : Int) < (bt276.1.length : Int) then ((some (bt276.1.set ((l4.length : Int) : Int).toNat (⟨x13_2, bt271.2.1, bt276.2.1⟩ : S93) : List (S93))).bind fun y281 => (if bt271.2.2 = true then (some (y281, (l4.length : Int), bt276.2.2)) else (some (y281, (l4.length : Int), false)))) else (none)) else (none)))) else (none))) else (none))) else (none)) else (none)) = some (r1, r2, r3) := by first | (rw [hy260]; exact H) | exact H
   have Ny260 := mk_ hy260
   clear hy260
   by_cases c23 : 0 ≤ x13_2
   rotate_left
   ·rw [if_neg c23] at H
    exact absurd H (by simp)
   rw [if_pos c23] at H
   have c23b0 : decide (0 ≤ x13_2) = true := decide_eq_true c23
   clear c23
   by_cases c24 : x13_2 < (y260.length : Int)
   rotate_left
   ·rw [if_neg c24] at H
    exact absurd H (by simp)
   rw [if_pos c24] at H
   have c24b0 : decide (x13_2 < (y260.length : Int)) = true := decide_eq_true c24
   clear c24
   obtain ⟨y263, hy263⟩ : ∃ y_ : List Int, y_ = (y260.set (x13_2 : Int).toNat 0) := ⟨_, rfl⟩
   replace H : ((some (([] : List Int) : List Int)).bind fun y264 => (if y264.length + l3.length < 17592186044416 then ((some (y264 ++ l3 : List Int)).bind fun y267 => (if x13_2 < (y267.length : Int) then ((spec_l11Grow.f k2 a0 l1 l2 y263 y254).bind fun bt271 => ((spec_l11Grow.f k2 a0 l1 l2 (y267.set (x13_2 : Int).toNat 1) bt271.1).bind fun bt276 => (if 0 ≤ (l4.length : Int) then (if (l4.length : Int) < (bt276.1.length : Int) then ((some (bt276.1.set ((l4.length : Int) : Int).toNat (⟨x13_2, bt271.2.1, bt276.2.1⟩ : S93) : List (S93))).bind fun y281 => (if bt271.2.2 = true then (some (y281, (l4.length : Int), bt276.2.2)) else (some (y281, (l4.length : Int), false)))) else (none)) else (none)))) else (none))) else (none))) = some (r1, r2, r3) := by first | (rw [hy263]; exact H) | exact H
   have Ny263 := mk_ hy263
   clear hy263
   obtain ⟨y264, hy264⟩ : ∃ y_ : List Int, y_ = (([] : List Int)) := ⟨_, rfl⟩
   replace H : (if y264.length + l3.length < 17592186044416 then ((some (y264 ++ l3 : List Int)).bind fun y267 => (if x13_2 < (y267.length : Int) then ((spec_l11Grow.f k2 a0 l1 l2 y263 y254).bind fun bt271 => ((spec_l11Grow.f k2 a0 l1 l2 (y267.set (x13_2 : Int).toNat 1) bt271.1).bind fun bt276 => (if 0 ≤ (l4.length : Int) then (if (l4.length : Int) < (bt276.1.length : Int) then ((some (bt276.1.set ((l4.length : Int) : Int).toNat (⟨x13_2, bt271.2.1, bt276.2.1⟩ : S93) : List (S93))).bind fun y281 => (if bt271.2.2 = true then (some (y281, (l4.length : Int), bt276.2.2)) else (some (y281, (l4.length : Int), false)))) else (none)) else (none)))) else (none))) else (none)) = some (r1, r2, r3) := by first | (rw [hy264]; exact H) | exact H
   have Ny264 := mk_ hy264
   clear hy264
   by_cases c26 : y264.length + l3.length < 17592186044416
   rotate_left
   ·rw [if_neg c26] at H
    exact absurd H (by simp)
   rw [if_pos c26] at H
   have LMc26 := mk_ c26
   clear c26
   obtain ⟨y267, hy267⟩ : ∃ y_ : List Int, y_ = (y264 ++ l3) := ⟨_, rfl⟩
   replace H : (if x13_2 < (y267.length : Int) then ((spec_l11Grow.f k2 a0 l1 l2 y263 y254).bind fun bt271 => ((spec_l11Grow.f k2 a0 l1 l2 (y267.set (x13_2 : Int).toNat 1) bt271.1).bind fun bt276 => (if 0 ≤ (l4.length : Int) then (if (l4.length : Int) < (bt276.1.length : Int) then ((some (bt276.1.set ((l4.length : Int) : Int).toNat (⟨x13_2, bt271.2.1, bt276.2.1⟩ : S93) : List (S93))).bind fun y281 => (if bt271.2.2 = true then (some (y281, (l4.length : Int), bt276.2.2)) else (some (y281, (l4.length : Int), false)))) else (none)) else (none)))) else (none)) = some (r1, r2, r3) := by first | (rw [hy267]; exact H) | exact H
   have Ny267 := mk_ hy267
   clear hy267
   by_cases c27 : x13_2 < (y267.length : Int)
   rotate_left
   ·rw [if_neg c27] at H
    exact absurd H (by simp)
   rw [if_pos c27] at H
   have c27b0 : decide (x13_2 < (y267.length : Int)) = true := decide_eq_true c27
   clear c27
   obtain ⟨y270, hy270⟩ : ∃ y_ : List Int, y_ = (y267.set (x13_2 : Int).toNat 1) := ⟨_, rfl⟩
   replace H : ((spec_l11Grow.f k2 a0 l1 l2 y263 y254).bind fun bt271 => ((spec_l11Grow.f k2 a0 l1 l2 y270 bt271.1).bind fun bt276 => (if 0 ≤ (l4.length : Int) then (if (l4.length : Int) < (bt276.1.length : Int) then ((some (bt276.1.set ((l4.length : Int) : Int).toNat (⟨x13_2, bt271.2.1, bt276.2.1⟩ : S93) : List (S93))).bind fun y281 => (if bt271.2.2 = true then (some (y281, (l4.length : Int), bt276.2.2)) else (some (y281, (l4.length : Int), false)))) else (none)) else (none)))) = some (r1, r2, r3) := by first | (rw [hy270]; exact H) | exact H
   have Ny270 := mk_ hy270
   clear hy270
   replace H := Option.bind_eq_some_iff.mp H
   obtain ⟨⟨t271, t274, t275⟩, A290, H⟩ := H
   try dsimp only at H
   have A29 := mk_ A290
   clear A290
   replace H := Option.bind_eq_some_iff.mp H
   obtain ⟨⟨t276, t279, t280⟩, A300, H⟩ := H
   try dsimp only at H
   have A30 := mk_ A300
   clear A300
   by_cases c31 : 0 ≤ (l4.length : Int)
   rotate_left
   ·rw [if_neg c31] at H
    exact absurd H (by simp)
   rw [if_pos c31] at H
   have c31b0 : decide (0 ≤ (l4.length : Int)) = true := decide_eq_true c31
   have c31b1 : decide (0 ≤ l4.length) = true := decide_eq_true (by omega)
   clear c31
   by_cases c32 : (l4.length : Int) < (t276.length : Int)
   rotate_left
   ·rw [if_neg c32] at H
    exact absurd H (by simp)
   rw [if_pos c32] at H
   have c32b0 : decide ((l4.length : Int) < (t276.length : Int)) = true := decide_eq_true c32
   have c32b1 : decide (l4.length < t276.length) = true := decide_eq_true (Int.ofNat_lt.mp c32)
   clear c32
   obtain ⟨y281, hy281⟩ : ∃ y_ : List (S93), y_ = (t276.set ((l4.length : Int) : Int).toNat (⟨x13_2, t274, t279⟩ : S93)) := ⟨_, rfl⟩
   replace H : (if t275 = true then (some (y281, (l4.length : Int), t280)) else (some (y281, (l4.length : Int), false))) = some (r1, r2, r3) := by first | (rw [hy281]; exact H) | exact H
   have Ny281 := mk_ hy281
   clear hy281
   by_cases c34 : t275 = true
   ·subst c34
    rw [if_pos rfl] at H
    simp only [Option.some.injEq, Prod.mk.injEq] at H
    obtain ⟨rfl, rfl, rfl⟩ := H
    obtain ⟨Ao35, co35, eo35⟩ := Kd.R_slice HO_4.out
    subst eo35
    go_wp2_with (first | ((with_reducible refine gate_dst (N := 62) rfl ?_); refine Kd.R_lit k93 _ 93 ?hg (N := 62) ?hd (xs := ([] : List (S93))) (inner := []) (ok := fun _ => True) (okp := fun _ => True) ?hr ?hp (fun _ hk => hk) trivial (Below.refl _ _) (Nat.le_refl _) (by simp) ?_; (case hd => rfl); (case hg => rfl); (case hr => first | (go_simp; done) | (go_simp; rfl)); (case hp => exact (Reps.none _ _)); intro v249 w36 ho37 hb hg_ hnew_; clear hg_ hnew_; (first | rw [← Ny248.out] at ho37 | (simp only [Int.reduceToNat] at ho37; rw [← Ny248.out] at ho37)); have HO250 := mk_ (Kd.R_lower (Kd.R_new' (Kd.R_newM (M := fun k_ => (P4_ k_ ∨ w.heap.size ≤ k_)) ho37 (by first | exact HK.out.1 | exact (show Kept w _ (fun k_ => P4_ k_) from by repeat (first | (with_reducible first | exact HK.out | apply Kept.alloc | apply Kept.drewN | apply Kept.drew) | exact HK.out)).1) (fun k_ h_ => .inr h_)) (Kd.R_lt (Kd.R_below HO_4.out lt_))) (below_size (below_at HB.out))); replace HO_4 := mk_ (Kd.R_elder' (Kd.R_below HO_4.out lt_) (Kd.R_base ho37) hb); replace HK := mk_ (Kept.below (S := (fun k_ => P4_ k_)) (by repeat (first | (with_reducible first | exact HK.out | apply Kept.alloc | apply Kept.drewN | apply Kept.drew) | exact HK.out)) hb); replace HB := mk_ (below_step (below_at HB.out) hb); clear hb ho37) | ((with_reducible refine gate_builtin (b := .append) (xs := #[.tmp 62, .tmp 63]) rfl ?_); at_builtin; refine Kd.R_append_rows k93 (w0 := w0) w0.heap.size rfl (.tmp 62) (.tmp 63) 49 93 (.agg #[(.int .i64 0), (.int .i64 0), (.int .i64 0)]) 24 rfl Try.underlying49 info93 rfl (by decide) (by omega) v249 y248 l4 _ _ _ (fun k_ => (P4_ k_ ∨ w.heap.size ≤ k_) ∧ some k_ ≠ (.slice Ao35 l4.length co35 : Value).ownBlock) (fun _ => False) rfl rfl ?aO ?aR (fun _ _ h => h) (fun _ h => h.elim) ?aF ?aB ?aS ?aL ?_; (case aR => exact Kd.C_below (Kd.R_reads' HO_4.out).2.2 lt_); (case aB => exact (below_at HB.out)); (case aF => exact (fun k_ hk => ⟨(.inr (Nat.le_trans (by first | exact HK.out.1 | exact (show Kept w _ (fun k_ => P4_ k_) from by repeat (first | (with_reducible first | exact HK.out | apply Kept.alloc | apply Kept.drewN | apply Kept.drew) | exact HK.out)).1) hk)), Kd.fresh' (Kd.R_lt (Kd.R_below HO_4.out lt_)) k_ hk⟩)); (case aO => exact (Kd.R_below (Kd.R_mono HO250.out (fun _ hk => ⟨hk.1.1, hk.2⟩)) lt_)); (case aS => exact (below_size (below_at HB.out))); (case aL => have := LMc20.out; omega); intro v252 w38 ho hb hg hat; rw [← Ny251.out] at ho; replace HO_4 := mk_ (Kd.R_after (ok := (fun k_ => (P4_ k_ ∨ w.heap.size ≤ k_))) (Kd.R_below HO_4.out lt_) hg hat); replace HB := mk_ (hb); replace HK := mk_ (Kept.of_grown (S := (fun k_ => P4_ k_)) hg (by repeat (first | (with_reducible first | exact HK.out | apply Kept.alloc | apply Kept.drewN | apply Kept.drew) | exact HK.out)) (fun k_ e_ => (HO250.out.1 k_ e_).1.1)); have HO253 := mk_ (ho); (try clear HO250); clear ho hb hg hat) | ((with_reducible refine gate_builtin (b := .append) (xs := #[.tmp 64, .tmp 67]) rfl ?_); at_builtin; refine Kd.R_append k93 (w0 := w0) w0.heap.size rfl (.tmp 64) (.tmp 67) 49 93 (.agg #[(.int .i64 0), (.int .i64 0), (.int .i64 0)]) 24 rfl Try.underlying49 info93 rfl (by decide) (by omega) v252 y251 (⟨x13_2, (-1), (-1)⟩ : S93) [.int .i64 x13_2, .int .i64 (-1), .int .i64 (-1)] (fun k_ => (P4_ k_ ∨ w.heap.size ≤ k_) ∧ some k_ ≠ (.slice Ao35 l4.length co35 : Value).ownBlock) (fun _ => False) rfl rfl ?aP (fun _ hk => hk.elim) ?aF ?aO ?aB ?aS ?aL ?_; (case aP => exact k93_mkM _ _ _ (⟨x13_2, (-1), (-1)⟩ : S93)); (case aB => exact (below_at HB.out)); (case aF => exact (fun k_ hk => ⟨(.inr (Nat.le_trans (by first | exact HK.out.1 | exact (show Kept w _ (fun k_ => P4_ k_) from by repeat (first | (with_reducible first | exact HK.out | apply Kept.alloc | apply Kept.drewN | apply Kept.drew) | exact HK.out)).1) hk)), Kd.fresh' (Kd.R_lt (Kd.R_below HO_4.out lt_)) k_ hk⟩)); (case aO => exact (Kd.R_below HO253.out lt_)); (case aS => exact (below_size (below_at HB.out))); (case aL => have := LMc21.out; omega); intro v255 w39 ho hb hg hat; rw [← Ny254.out] at ho; replace HO_4 := mk_ (Kd.R_after (ok := (fun k_ => (P4_ k_ ∨ w.heap.size ≤ k_))) (Kd.R_below HO_4.out lt_) hg hat); replace HB := mk_ (hb); replace HK := mk_ (Kept.of_grown (S := (fun k_ => P4_ k_)) hg (by repeat (first | (with_reducible first | exact HK.out | apply Kept.alloc | apply Kept.drewN | apply Kept.drew) | exact HK.out)) (fun k_ e_ => (HO253.out.1 k_ e_).1)); have HO256 := mk_ (ho); (try clear HO253); clear ho hb hg hat) | ((with_reducible refine gate_dst (N := 69) rfl ?_); refine Kd.R_lit (Kd.int .i64) _ 3 ?hg (N := 69) ?hd (xs := ([] : List Int)) (inner := []) (ok := fun _ => True) (okp := fun _ => True) ?hr ?hp (fun _ hk => hk) trivial (Below.refl _ _) (Nat.le_refl _) (by simp) ?_; (case hd => rfl); (case hg => rfl); (case hr => first | (go_simp; done) | (go_simp; rfl)); (case hp => exact (Reps.none _ _)); intro v258 w40 ho41 hb hg_ hnew_; clear hg_ hnew_; (first | rw [← Ny257.out] at ho41 | (simp only [Int.reduceToNat] at ho41; rw [← Ny257.out] at ho41)); replace HO_4 := mk_ (Kd.R_below (Kd.R_below HO_4.out lt_) hb); replace HO256 := mk_ (Kd.R_below (Kd.R_below HO256.out lt_) hb); have HO259 := mk_ (Kd.R_lower (Kd.R_newM (M := fun k_ => (P4_ k_ ∨ w.heap.size ≤ k_)) ho41 (by first | exact HK.out.1 | exact (show Kept w _ (fun k_ => P4_ k_) from by repeat (first | (with_reducible first | exact HK.out | apply Kept.alloc | apply Kept.drewN | apply Kept.drew) | exact HK.out)).1) (fun k_ h_ => .inr h_)) (below_size (below_at HB.out))); replace HK := mk_ (Kept.below (S := (fun k_ => P4_ k_)) (by repeat (first | (with_reducible first | exact HK.out | apply Kept.alloc | apply Kept.drewN | apply Kept.drew) | exact HK.out)) hb); replace HB := mk_ (below_step (below_at HB.out) hb); clear hb ho41) | ((with_reducible refine gate_builtin (b := .append) (xs := #[.tmp 69, .tmp 70]) rfl ?_); at_builtin; refine Kd.R_append_rows (Kd.int .i64) (w0 := w0) w0.heap.size rfl (.tmp 69) (.tmp 70) 42 3 (.int .i64 0) 8 rfl Try.underlying42 info3 rfl (by decide) (by omega) v258 y257 l3 _ _ _ (fun k_ => (P4_ k_ ∨ w.heap.size ≤ k_)) (fun _ => False) rfl rfl ?aO ?aR (fun _ _ h => h) (fun _ h => h.elim) ?aF ?aB ?aS ?aL ?_; (case aR => exact Kd.C_kept_now HR3.out (by repeat (first | (with_reducible first | exact HK.out | apply Kept.alloc | apply Kept.drewN | apply Kept.drew) | exact HK.out))); (case aB => exact (below_at HB.out)); (case aF => exact (fun k_ hk => (.inr (Nat.le_trans (by first | exact HK.out.1 | exact (show Kept w _ (fun k_ => P4_ k_) from by repeat (first | (with_reducible first | exact HK.out | apply Kept.alloc | apply Kept.drewN | apply Kept.drew) | exact HK.out)).1) hk)))); (case aO => exact (Kd.R_below (Kd.R_mono HO259.out (fun _ hk => hk.1)) lt_)); (case aS => exact (below_size (below_at HB.out))); (case aL => have := LMc22.out; omega); intro v261 w42 ho hb hg hat; rw [← Ny260.out] at ho; replace HO_4 := mk_ (Kd.R_over' (Kd.R_below HO_4.out lt_) (Kd.R_typed (Kd.R_below HO259.out lt_)) (by decide) hg); replace HO256 := mk_ (Kd.R_over' (Kd.R_below HO256.out lt_) (Kd.R_typed (Kd.R_below HO259.out lt_)) (by decide) hg); replace HB := mk_ (hb); replace HK := mk_ (Kept.of_grown (S := (fun k_ => P4_ k_)) hg (by repeat (first | (with_reducible first | exact HK.out | apply Kept.alloc | apply Kept.drewN | apply Kept.drew) | exact HK.out)) (fun k_ e_ => (HO259.out.1 k_ e_).1)); have HO262 := mk_ (ho); (try clear HO259); clear ho hb hg hat; have p25 : 0 ≤ (x13_2 : Int) := oa_; have q25 : (x13_2 : Int) < ((y260.length : Int) : Int) := oa_; obtain ⟨go25, co25, eo25, gb25, gl25, cl25, HG25⟩ := Kd.R_form HO262.out (by omega); (first | cases eo25 | (injection eo25 with ea_ en_ ec_; (first | subst ea_ | (injection ea_ with ea_; subst ea_)); subst ec_; clear en_)); have GB25 := mk_ gb25; have GG25 := mk_ HG25; clear gb25 gl25 HG25; have HMgo25 := mk_ (show (P4_ go25 ∨ w.heap.size ≤ go25) from (HO262.out.1 _ rfl)); obtain ⟨hx25_0, hf25_0⟩ := Kd.R_celln 0 HO262.out (x13_2 : Int) p25 q25; replace p25 := eq_true p25; replace q25 := eq_true q25; obtain ⟨hy43_, hz43_⟩ := Kd.R_celln 0 HO262.out (x13_2 : Int) (oa_) (oa_); have HP43 := Kd.R_putg HO262.out (x13_2 : Int) 0) | ((with_reducible refine gate_store (t := 3) (p := 74) rfl ?_); refine store_event (t := 3) (p := 74) (v := ?vo_w44) (w1 := (w42.setCell ⟨go25, (x13_2 : Int).toNat, none⟩ (.int .i64 0))) ?hg ?ho ?hn ?hr ?_; (case ho => rfl); (case hg => rfl); (case hn => rfl); (case hr => first | (go_simp; done) | (go_simp; rfl)); intro w44 hw; have hg : w42.grownBy w44 (some go25) := (by rw [hw]; exact HP43.2); have hp_ : Kd.R (Kd.int .i64) 3 w44 w0.heap.size (fun k_ => (P4_ k_ ∨ w.heap.size ≤ k_)) (.slice (some ⟨go25, 0, none⟩) y260.length co25) y263 := (by rw [hw, Ny263.out]; exact HP43.1); clear HP43; replace HO_4 := mk_ (Kd.R_over' (v := (.slice (some ⟨go25, 0, none⟩) y260.length co25)) (Kd.R_below HO_4.out lt_) (Kd.R_typed HO262.out) (by decide) hg); replace HO256 := mk_ (Kd.R_over' (v := (.slice (some ⟨go25, 0, none⟩) y260.length co25)) (Kd.R_below HO256.out lt_) (Kd.R_typed HO262.out) (by decide) hg); replace HB := mk_ ((by rw [hw]; exact below_set (HB.out) GB25.out : Below w0.heap.size w0 w44)); replace HK := mk_ (Kept.of_grown (S := (fun k_ => P4_ k_)) hg (by repeat (first | (with_reducible first | exact HK.out | apply Kept.alloc | apply Kept.drewN | apply Kept.drew) | exact HK.out)) (fun k_ e_ => (HO262.out.1 k_ e_))); replace HO262 := mk_ (hp_); clear hg hw hp_) | ((with_reducible refine gate_dst (N := 75) rfl ?_); refine Kd.R_lit (Kd.int .i64) _ 3 ?hg (N := 75) ?hd (xs := ([] : List Int)) (inner := []) (ok := fun _ => True) (okp := fun _ => True) ?hr ?hp (fun _ hk => hk) trivial (Below.refl _ _) (Nat.le_refl _) (by simp) ?_; (case hd => rfl); (case hg => rfl); (case hr => first | (go_simp; done) | (go_simp; rfl)); (case hp => exact (Reps.none _ _)); intro v265 w45 ho46 hb hg_ hnew_; clear hg_ hnew_; (first | rw [← Ny264.out] at ho46 | (simp only [Int.reduceToNat] at ho46; rw [← Ny264.out] at ho46)); replace HO_4 := mk_ (Kd.R_below (Kd.R_below HO_4.out lt_) hb); replace HO256 := mk_ (Kd.R_below (Kd.R_below HO256.out lt_) hb); have HO266 := mk_ (Kd.R_lower (Kd.R_new' (Kd.R_newM (M := fun k_ => (P4_ k_ ∨ w.heap.size ≤ k_)) ho46 (by first | exact HK.out.1 | exact (show Kept w _ (fun k_ => P4_ k_) from by repeat (first | (with_reducible first | exact HK.out | apply Kept.alloc | apply Kept.drewN | apply Kept.drew) | exact HK.out)).1) (fun k_ h_ => .inr h_)) (Kd.R_lt (Kd.R_below HO262.out lt_))) (below_size (below_at HB.out))); replace HO262 := mk_ (Kd.R_elder' (Kd.R_below HO262.out lt_) (Kd.R_base ho46) hb); replace HK := mk_ (Kept.below (S := (fun k_ => P4_ k_)) (by repeat (first | (with_reducible first | exact HK.out | apply Kept.alloc | apply Kept.drewN | apply Kept.drew) | exact HK.out)) hb); replace HB := mk_ (below_step (below_at HB.out) hb); clear hb ho46) | ((with_reducible refine gate_builtin (b := .append) (xs := #[.tmp 75, .tmp 76]) rfl ?_); at_builtin; refine Kd.R_append_rows (Kd.int .i64) (w0 := w0) w0.heap.size rfl (.tmp 75) (.tmp 76) 42 3 (.int .i64 0) 8 rfl Try.underlying42 info3 rfl (by decide) (by omega) v265 y264 l3 _ _ _ (fun k_ => (P4_ k_ ∨ w.heap.size ≤ k_) ∧ some k_ ≠ (.slice (some ⟨go25, 0, none⟩) y260.length co25 : Value).ownBlock) (fun _ => False) rfl rfl ?aO ?aR (fun _ _ h => h) (fun _ h => h.elim) ?aF ?aB ?aS ?aL ?_; (case aR => exact Kd.C_kept_now HR3.out (by repeat (first | (with_reducible first | exact HK.out | apply Kept.alloc | apply Kept.drewN | apply Kept.drew) | exact HK.out))); (case aB => exact (below_at HB.out)); (case aF => exact (fun k_ hk => ⟨(.inr (Nat.le_trans (by first | exact HK.out.1 | exact (show Kept w _ (fun k_ => P4_ k_) from by repeat (first | (with_reducible first | exact HK.out | apply Kept.alloc | apply Kept.drewN | apply Kept.drew) | exact HK.out)).1) hk)), Kd.fresh' (Kd.R_lt (Kd.R_below HO262.out lt_)) k_ hk⟩)); (case aO => exact (Kd.R_below (Kd.R_mono HO266.out (fun _ hk => ⟨hk.1.1, hk.2⟩)) lt_)); (case aS => exact (below_size (below_at HB.out))); (case aL => have := LMc26.out; omega); intro v268 w47 ho hb hg hat; rw [← Ny267.out] at ho; replace HO_4 := mk_ (Kd.R_over' (Kd.R_below HO_4.out lt_) (Kd.R_typed (Kd.R_below HO266.out lt_)) (by decide) hg); replace HO256 := mk_ (Kd.R_over' (Kd.R_below HO256.out lt_) (Kd.R_typed (Kd.R_below HO266.out lt_)) (by decide) hg); replace HO262 := mk_ (Kd.R_after (ok := (fun k_ => (P4_ k_ ∨ w.heap.size ≤ k_))) (Kd.R_below HO262.out lt_) hg hat); replace HB := mk_ (hb); replace HK := mk_ (Kept.of_grown (S := (fun k_ => P4_ k_)) hg (by repeat (first | (with_reducible first | exact HK.out | apply Kept.alloc | apply Kept.drewN | apply Kept.drew) | exact HK.out)) (fun k_ e_ => (HO266.out.1 k_ e_).1.1)); have HO269 := mk_ (ho); (try clear HO266); clear ho hb hg hat; have p28 : 0 ≤ (x13_2 : Int) := oa_; have q28 : (x13_2 : Int) < ((y267.length : Int) : Int) := oa_; obtain ⟨go28, co28, eo28, gb28, gl28, cl28, HG28⟩ := Kd.R_form HO269.out (by omega); (first | cases eo28 | (injection eo28 with ea_ en_ ec_; (first | subst ea_ | (injection ea_ with ea_; subst ea_)); subst ec_; clear en_)); have GB28 := mk_ gb28; have GG28 := mk_ HG28; clear gb28 gl28 HG28; have HMgo28 := mk_ (show (P4_ go28 ∨ w.heap.size ≤ go28) from (HO269.out.1 _ rfl).1); obtain ⟨hx28_0, hf28_0⟩ := Kd.R_celln 0 HO269.out (x13_2 : Int) p28 q28; replace p28 := eq_true p28; replace q28 := eq_true q28; obtain ⟨hy48_, hz48_⟩ := Kd.R_celln 0 HO269.out (x13_2 : Int) (oa_) (oa_); have HP48 := Kd.R_putg HO269.out (x13_2 : Int) 1) | ((with_reducible refine gate_store (t := 3) (p := 80) rfl ?_); refine store_event (t := 3) (p := 80) (v := ?vo_w49) (w1 := (w47.setCell ⟨go28, (x13_2 : Int).toNat, none⟩ (.int .i64 1))) ?hg ?ho ?hn ?hr ?_; (case ho => rfl); (case hg => rfl); (case hn => rfl); (case hr => first | (go_simp; done) | (go_simp; rfl)); intro w49 hw; have hg : w47.grownBy w49 (some go28) := (by rw [hw]; exact HP48.2); have hp_ : Kd.R (Kd.int .i64) 3 w49 w0.heap.size (fun k_ => (P4_ k_ ∨ w.heap.size ≤ k_) ∧ some k_ ≠ (.slice (some ⟨go25, 0, none⟩) y260.length co25 : Value).ownBlock) (.slice (some ⟨go28, 0, none⟩) y267.length co28) y270 := (by rw [hw, Ny270.out]; exact HP48.1); clear HP48; replace HO_4 := mk_ (Kd.R_over' (v := (.slice (some ⟨go28, 0, none⟩) y267.length co28)) (Kd.R_below HO_4.out lt_) (Kd.R_typed HO269.out) (by decide) hg); replace HO256 := mk_ (Kd.R_over' (v := (.slice (some ⟨go28, 0, none⟩) y267.length co28)) (Kd.R_below HO256.out lt_) (Kd.R_typed HO269.out) (by decide) hg); replace HO262 := mk_ (Kd.R_after (v := (.slice (some ⟨go28, 0, none⟩) y267.length co28)) (v1 := (.slice (some ⟨go28, 0, none⟩) y267.length co28)) (ok := (fun k_ => (P4_ k_ ∨ w.heap.size ≤ k_))) (Kd.R_below HO262.out lt_) hg (.inl rfl)); replace HB := mk_ ((by rw [hw]; exact below_set (HB.out) GB28.out : Below w0.heap.size w0 w49)); replace HK := mk_ (Kept.of_grown (S := (fun k_ => P4_ k_)) hg (by repeat (first | (with_reducible first | exact HK.out | apply Kept.alloc | apply Kept.drewN | apply Kept.drew) | exact HK.out)) (fun k_ e_ => (HO269.out.1 k_ e_).1)); replace HO269 := mk_ (hp_); clear hg hw hp_; obtain ⟨Ao50, co50, eo50⟩ := Kd.R_slice HO256.out; subst eo50) | ((with_reducible refine gate_callee (f := 78) rfl ?_); refine goesL_ (some 87) rfl rfl Try.func78 (by kernel_rfl) rfl #[.int .i64 a0, .slice A1 l1.length c1, .slice A2 l2.length c2, .slice (some ⟨go25, 0, none⟩) y263.length co25, .slice Ao50 y254.length co50] rfl (by (try simp only [List.map_toArray, List.map_cons, List.map_nil]); first | done | (rw [show y263.length = y260.length from (Kd.R_reads' HO262.out).1.symm] <;> rfl) | rfl | (simp only [List.length_drop, List.length_take]; rfl)) ?_; (with_reducible refine (ih k2 (by have := HK1.out; have := HK2.out; omega) a0 _ _ l1 _ _ l2 _ _ y263 (fun k_ => some k_ = (.slice Ao50 y254.length co50 : Value).ownBlock) (.slice Ao50 y254.length co50) y254 t271 t274 true w0 _ ?side1 ?side2 ?side3 ?side4 ?side5 ?side6 ?side7 ?side8 A29.out).mono ?_); (case side1 => exact below_at HB.out); (case side2 => exact Kd.C_kept_call HR1.out (by repeat (first | (with_reducible first | exact HK.out | apply Kept.alloc | apply Kept.drewN | apply Kept.drew) | exact HK.out)) (fun k_ hs_ => (fun e_ => (HO256.out.1 k_ e_.symm).1) hs_)); (case side3 => exact HC1.out); (case side4 => exact Kd.C_kept_call HR2.out (by repeat (first | (with_reducible first | exact HK.out | apply Kept.alloc | apply Kept.drewN | apply Kept.drew) | exact HK.out)) (fun k_ hs_ => (fun e_ => (HO256.out.1 k_ e_.symm).1) hs_)); (case side5 => exact HC2.out); (case side6 => first | exact Kd.C_kept_own ((Kd.R_apart' HO262.out (Kd.R_typed HO256.out) (by decide))) (fun k_ hk_ hs_ => (hk_.2) hs_) | (rw [show y263.length = y260.length from (Kd.R_reads' HO262.out).1.symm]; exact Kd.C_kept_own ((Kd.R_apart' HO262.out (Kd.R_typed HO256.out) (by decide))) (fun k_ hk_ hs_ => (hk_.2) hs_))); (case side7 => rw [show y263.length = y260.length from (Kd.R_reads' HO262.out).1.symm]; exact (Kd.R_reads' HO262.out).2.1); (case side8 => exact Kd.R_tight rfl HO256.out); rintro e w51 ⟨v272, rfl, ho0, hb, hkp⟩; refine ⟨_, rfl, ?_⟩; replace HO269 := mk_ (Kd.R_mono (ok' := fun k_ => (P4_ k_ ∨ w.heap.size ≤ k_) ∧ some k_ ≠ (.slice (some ⟨go25, 0, none⟩) y260.length co25 : Value).ownBlock) (Kd.R_keptB ((Kd.R_apart' HO269.out (Kd.R_typed HO256.out) (by decide))) hkp (fun k_ hk_ hs_ => (hk_.2) hs_)) (fun k_ hk_ => ⟨hk_.1.1.1, hk_.1.1.2⟩)); have HO273 := mk_ (Kd.R_mono (ok' := fun k_ => (P4_ k_ ∨ w.heap.size ≤ k_) ∧ some k_ ≠ (.slice Ao35 l4.length co35 : Value).ownBlock) ho0 (fun k_ hk_ => ⟨Or.elim hk_ (fun hs_ => (HO256.out.1 k_ (hs_).symm).1) (fun hn_ => (.inr (Nat.le_trans (by first | exact HK.out.1 | exact (show Kept w _ (fun k_ => P4_ k_) from by repeat (first | (with_reducible first | exact HK.out | apply Kept.alloc | apply Kept.drewN | apply Kept.drew) | exact HK.out)).1) hn_))), Or.elim hk_ (fun hs_ => fun e_ => (((HO_4.out).1 k_ e_.symm).2) hs_) (fun hn_ => (Kd.fresh' (Kd.R_lt (Kd.R_below HO_4.out lt_)) k_ hn_))⟩)); replace HO_4 := mk_ (Kd.R_mono (ok' := fun k_ => (P4_ k_ ∨ w.heap.size ≤ k_) ∧ some k_ ≠ (v272 : Value).ownBlock) (Kd.R_keptB (HO_4.out) hkp (fun k_ hk_ hs_ => (hk_.2) hs_)) (fun k_ hk_ => ⟨hk_.1.1, fun e_ => Or.elim (ho0.1 k_ e_.symm) (fun hs_ => hk_.2.1 hs_) (fun hn_ => Nat.not_le.2 hk_.2.2 hn_)⟩)); replace HK := mk_ (Kept.then_ (S := (fun k_ => P4_ k_)) (by repeat (first | (with_reducible first | exact HK.out | apply Kept.alloc | apply Kept.drewN | apply Kept.drew) | exact HK.out)) hkp (fun k_ hs_ => (fun e_ => (HO256.out.1 k_ e_.symm).1) hs_)); replace HB := mk_ (hb); (try clear HO262 HO256); (try clear hb); (try clear hkp); (try clear ho0); obtain ⟨Ao52, co52, eo52⟩ := Kd.R_slice HO273.out; subst eo52) | ((with_reducible refine gate_callee (f := 78) rfl ?_); refine goesL_ (some 97) rfl rfl Try.func78 (by kernel_rfl) rfl #[.int .i64 a0, .slice A1 l1.length c1, .slice A2 l2.length c2, .slice (some ⟨go28, 0, none⟩) y270.length co28, .slice Ao52 t271.length co52] rfl (by (try simp only [List.map_toArray, List.map_cons, List.map_nil]); first | done | (rw [show y270.length = y267.length from (Kd.R_reads' HO269.out).1.symm] <;> rfl) | rfl | (simp only [List.length_drop, List.length_take]; rfl)) ?_; (with_reducible refine (ih k2 (by have := HK1.out; have := HK2.out; omega) a0 _ _ l1 _ _ l2 _ _ y270 (fun k_ => some k_ = (.slice Ao52 t271.length co52 : Value).ownBlock) (.slice Ao52 t271.length co52) t271 t276 t279 t280 w0 _ ?side1 ?side2 ?side3 ?side4 ?side5 ?side6 ?side7 ?side8 A30.out).mono ?_); (case side1 => exact below_at HB.out); (case side2 => exact Kd.C_kept_call HR1.out (by repeat (first | (with_reducible first | exact HK.out | apply Kept.alloc | apply Kept.drewN | apply Kept.drew) | exact HK.out)) (fun k_ hs_ => (fun e_ => (HO273.out.1 k_ e_.symm).1) hs_)); (case side3 => exact HC1.out); (case side4 => exact Kd.C_kept_call HR2.out (by repeat (first | (with_reducible first | exact HK.out | apply Kept.alloc | apply Kept.drewN | apply Kept.drew) | exact HK.out)) (fun k_ hs_ => (fun e_ => (HO273.out.1 k_ e_.symm).1) hs_)); (case side5 => exact HC2.out); (case side6 => first | exact Kd.C_kept_own ((Kd.R_apart' HO269.out (Kd.R_typed HO273.out) (by decide))) (fun k_ hk_ hs_ => (hk_.2) hs_) | (rw [show y270.length = y267.length from (Kd.R_reads' HO269.out).1.symm]; exact Kd.C_kept_own ((Kd.R_apart' HO269.out (Kd.R_typed HO273.out) (by decide))) (fun k_ hk_ hs_ => (hk_.2) hs_))); (case side7 => rw [show y270.length = y267.length from (Kd.R_reads' HO269.out).1.symm]; exact (Kd.R_reads' HO269.out).2.1); (case side8 => exact Kd.R_tight rfl HO273.out); rintro e w53 ⟨v277, rfl, ho0, hb, hkp⟩; refine ⟨_, rfl, ?_⟩; have HO278 := mk_ (Kd.R_mono (ok' := fun k_ => (P4_ k_ ∨ w.heap.size ≤ k_) ∧ some k_ ≠ (.slice Ao35 l4.length co35 : Value).ownBlock) ho0 (fun k_ hk_ => ⟨Or.elim hk_ (fun hs_ => (HO273.out.1 k_ (hs_).symm).1) (fun hn_ => (.inr (Nat.le_trans (by first | exact HK.out.1 | exact (show Kept w _ (fun k_ => P4_ k_) from by repeat (first | (with_reducible first | exact HK.out | apply Kept.alloc | apply Kept.drewN | apply Kept.drew) | exact HK.out)).1) hn_))), Or.elim hk_ (fun hs_ => fun e_ => (((HO_4.out).1 k_ e_.symm).2) hs_) (fun hn_ => (Kd.fresh' (Kd.R_lt (Kd.R_below HO_4.out lt_)) k_ hn_))⟩)); replace HK := mk_ (Kept.then_ (S := (fun k_ => P4_ k_)) (by repeat (first | (with_reducible first | exact HK.out | apply Kept.alloc | apply Kept.drewN | apply Kept.drew) | exact HK.out)) hkp (fun k_ hs_ => (fun e_ => (HO273.out.1 k_ e_.symm).1) hs_)); replace HB := mk_ (hb); (try clear HO_4 HO262 HO269 HO273); (try clear hb); (try clear hkp); (try clear ho0); have p33 : 0 ≤ ((l4.length : Int) : Int) := oa_; have q33 : ((l4.length : Int) : Int) < ((t276.length : Int) : Int) := oa_; obtain ⟨go33, co33, eo33, gb33, gl33, cl33, HG33⟩ := Kd.R_form HO278.out (by omega); (first | cases eo33 | (injection eo33 with ea_ en_ ec_; (first | subst ea_ | (injection ea_ with ea_; subst ea_)); subst ec_; clear en_)); have GB33 := mk_ gb33; have GG33 := mk_ HG33; clear gb33 gl33 HG33; have HMgo33 := mk_ (show (P4_ go33 ∨ w.heap.size ≤ go33) from (HO278.out.1 _ rfl).1); obtain ⟨ce33, hcl33, hM33, hcc33, hfr33⟩ := Kd.R_elem HO278.out z93 ((l4.length : Int) : Int) p33 q33; obtain rfl := k93_openM hM33; have hx33_0 : w53.cell? ⟨go33, l4.length * 3, none⟩ = some (.int .i64 ((rd_T93 t276 (l4.length : Int)).f0)) := hcc33 0 _ rfl; have hx33_1 : w53.cell? ⟨go33, l4.length * 3 + 1, none⟩ = some (.int .i64 ((rd_T93 t276 (l4.length : Int)).f1)) := hcc33 1 _ rfl; have hx33_2 : w53.cell? ⟨go33, l4.length * 3 + 2, none⟩ = some (.int .i64 ((rd_T93 t276 (l4.length : Int)).f2)) := hcc33 2 _ rfl; have hf33_0 : w53.frozen? ⟨go33, l4.length * 3, none⟩ = false := hfr33 0; have hf33_1 : w53.frozen? ⟨go33, l4.length * 3 + 1, none⟩ = false := hfr33 1; have hf33_2 : w53.frozen? ⟨go33, l4.length * 3 + 2, none⟩ = false := hfr33 2; (try clear hM33); clear hcl33 hcc33 hfr33; replace p33 := eq_true p33; replace q33 := eq_true q33; have HX54 := mk_ (show Kd.R k93 93 w53 w0.heap.size (fun k_ => (P4_ k_ ∨ w.heap.size ≤ k_) ∧ some k_ ≠ (.slice Ao35 l4.length co35 : Value).ownBlock) (.slice (some ⟨go33, 0, none⟩) t276.length co33) t276 from (Kd.R_below HO278.out lt_)); obtain ⟨ce54, hcl54, hM54, hcc54, hfr54⟩ := Kd.R_elem HX54.out z93 ((l4.length : Int) : Int) (oa_) (by have h_ : ((l4.length : Int) : Int) < ((t276.length : Int) : Int) := oa_; first | exact h_ | (have e_ := (Kd.R_reads' HO278.out).1; omega) | simpa using h_); obtain rfl := k93_openM hM54; have HP54 := Kd.R_seg HX54.out ((l4.length : Int) : Int) (oa_) (by have h_ : ((l4.length : Int) : Int) < ((t276.length : Int) : Int) := oa_; first | exact h_ | (have e_ := (Kd.R_reads' HO278.out).1; omega) | simpa using h_) (seg := [.int .i64 x13_2, .int .i64 t274, .int .i64 t279]) (j := 0) hcl54 hcc54 (show 3 ≤ 3 from by decide) (x' := (⟨x13_2, t274, t279⟩ : S93)) (k93_mkM _ _ _ (⟨x13_2, t274, t279⟩ : S93) ) (fun _ hk => hk); have hx54_0 := hcc54 0 _ rfl; (try simp only [show (k93).sz = 3 from rfl, Nat.mul_one, Nat.add_zero, Int.toNat_natCast] at hx54_0); have hf54_0 := hfr54 0; (try simp only [show (k93).sz = 3 from rfl, Nat.mul_one, Nat.add_zero, Int.toNat_natCast] at hf54_0); have hx54_1 := hcc54 1 _ rfl; (try simp only [show (k93).sz = 3 from rfl, Nat.mul_one, Nat.add_zero, Int.toNat_natCast] at hx54_1); have hf54_1 := hfr54 1; (try simp only [show (k93).sz = 3 from rfl, Nat.mul_one, Nat.add_zero, Int.toNat_natCast] at hf54_1); have hx54_2 := hcc54 2 _ rfl; (try simp only [show (k93).sz = 3 from rfl, Nat.mul_one, Nat.add_zero, Int.toNat_natCast] at hx54_2); have hf54_2 := hfr54 2; (try simp only [show (k93).sz = 3 from rfl, Nat.mul_one, Nat.add_zero, Int.toNat_natCast] at hf54_2); (try clear hM54); clear hcl54 hcc54 hfr54) | ((with_reducible refine gate_store (t := 93) (p := 107) rfl ?_); refine store_event (t := 93) (p := 107) (v := ?vo_w55) (w1 := (((w53.setCell ⟨go33, l4.length * 3, none⟩ (.int .i64 x13_2)).setCell ⟨go33, l4.length * 3 + 1, none⟩ (.int .i64 t274)).setCell ⟨go33, l4.length * 3 + 2, none⟩ (.int .i64 t279))) ?hg ?ho ?hn ?hr ?_; (case ho => rfl); (case hg => rfl); (case hn => rfl); (case hr => first | (go_simp; done) | (go_simp; rfl)); intro w55 hw; have hg : w53.grownBy w55 (some go33) := (by rw [hw]; exact HP54.2); have hp_ : Kd.R k93 93 w55 w0.heap.size (fun k_ => (P4_ k_ ∨ w.heap.size ≤ k_) ∧ some k_ ≠ (.slice Ao35 l4.length co35 : Value).ownBlock) (.slice (some ⟨go33, 0, none⟩) t276.length co33) y281 := (by rw [hw, Ny281.out]; exact HP54.1); clear HP54; replace HB := mk_ ((by rw [hw]; exact below_set (below_set (below_set (HB.out) GB33.out) GB33.out) GB33.out : Below w0.heap.size w0 w55)); replace HK := mk_ (Kept.of_grown (S := (fun k_ => P4_ k_)) hg (by repeat (first | (with_reducible first | exact HK.out | apply Kept.alloc | apply Kept.drewN | apply Kept.drew) | exact HK.out)) (fun k_ e_ => (HO278.out.1 k_ e_).1)); replace HO278 := mk_ (hp_); (try clear HO_4 HO262 HO269); clear hg hw hp_))
    go_ret3
    exact ⟨_, er_, by (with_reducible repeat (first | apply Kd.R_alloc | apply Kd.R_drewN | apply Kd.R_drew)); exact Kd.R_mono HO278.out (fun _ hk => hk.1), below_at HB.out, by repeat (first | (with_reducible first | exact HK.out | apply Kept.alloc | apply Kept.drewN | apply Kept.drew) | exact HK.out)⟩
   replace c34 := Bool.eq_false_iff.mpr c34
   subst c34
   rw [if_neg (show ¬ (false = true) by decide)] at H
   simp only [Option.some.injEq, Prod.mk.injEq] at H
   obtain ⟨rfl, rfl, rfl⟩ := H
   obtain ⟨Ao56, co56, eo56⟩ := Kd.R_slice HO_4.out
   subst eo56
   go_wp2_with (first | ((with_reducible refine gate_dst (N := 62) rfl ?_); refine Kd.R_lit k93 _ 93 ?hg (N := 62) ?hd (xs := ([] : List (S93))) (inner := []) (ok := fun _ => True) (okp := fun _ => True) ?hr ?hp (fun _ hk => hk) trivial (Below.refl _ _) (Nat.le_refl _) (by simp) ?_; (case hd => rfl); (case hg => rfl); (case hr => first | (go_simp; done) | (go_simp; rfl)); (case hp => exact (Reps.none _ _)); intro v249 w57 ho58 hb hg_ hnew_; clear hg_ hnew_; (first | rw [← Ny248.out] at ho58 | (simp only [Int.reduceToNat] at ho58; rw [← Ny248.out] at ho58)); have HO250 := mk_ (Kd.R_lower (Kd.R_new' (Kd.R_newM (M := fun k_ => (P4_ k_ ∨ w.heap.size ≤ k_)) ho58 (by first | exact HK.out.1 | exact (show Kept w _ (fun k_ => P4_ k_) from by repeat (first | (with_reducible first | exact HK.out | apply Kept.alloc | apply Kept.drewN | apply Kept.drew) | exact HK.out)).1) (fun k_ h_ => .inr h_)) (Kd.R_lt (Kd.R_below HO_4.out lt_))) (below_size (below_at HB.out))); replace HO_4 := mk_ (Kd.R_elder' (Kd.R_below HO_4.out lt_) (Kd.R_base ho58) hb); replace HK := mk_ (Kept.below (S := (fun k_ => P4_ k_)) (by repeat (first | (with_reducible first | exact HK.out | apply Kept.alloc | apply Kept.drewN | apply Kept.drew) | exact HK.out)) hb); replace HB := mk_ (below_step (below_at HB.out) hb); clear hb ho58) | ((with_reducible refine gate_builtin (b := .append) (xs := #[.tmp 62, .tmp 63]) rfl ?_); at_builtin; refine Kd.R_append_rows k93 (w0 := w0) w0.heap.size rfl (.tmp 62) (.tmp 63) 49 93 (.agg #[(.int .i64 0), (.int .i64 0), (.int .i64 0)]) 24 rfl Try.underlying49 info93 rfl (by decide) (by omega) v249 y248 l4 _ _ _ (fun k_ => (P4_ k_ ∨ w.heap.size ≤ k_) ∧ some k_ ≠ (.slice Ao56 l4.length co56 : Value).ownBlock) (fun _ => False) rfl rfl ?aO ?aR (fun _ _ h => h) (fun _ h => h.elim) ?aF ?aB ?aS ?aL ?_; (case aR => exact Kd.C_below (Kd.R_reads' HO_4.out).2.2 lt_); (case aB => exact (below_at HB.out)); (case aF => exact (fun k_ hk => ⟨(.inr (Nat.le_trans (by first | exact HK.out.1 | exact (show Kept w _ (fun k_ => P4_ k_) from by repeat (first | (with_reducible first | exact HK.out | apply Kept.alloc | apply Kept.drewN | apply Kept.drew) | exact HK.out)).1) hk)), Kd.fresh' (Kd.R_lt (Kd.R_below HO_4.out lt_)) k_ hk⟩)); (case aO => exact (Kd.R_below (Kd.R_mono HO250.out (fun _ hk => ⟨hk.1.1, hk.2⟩)) lt_)); (case aS => exact (below_size (below_at HB.out))); (case aL => have := LMc20.out; omega); intro v252 w59 ho hb hg hat; rw [← Ny251.out] at ho; replace HO_4 := mk_ (Kd.R_after (ok := (fun k_ => (P4_ k_ ∨ w.heap.size ≤ k_))) (Kd.R_below HO_4.out lt_) hg hat); replace HB := mk_ (hb); replace HK := mk_ (Kept.of_grown (S := (fun k_ => P4_ k_)) hg (by repeat (first | (with_reducible first | exact HK.out | apply Kept.alloc | apply Kept.drewN | apply Kept.drew) | exact HK.out)) (fun k_ e_ => (HO250.out.1 k_ e_).1.1)); have HO253 := mk_ (ho); (try clear HO250); clear ho hb hg hat) | ((with_reducible refine gate_builtin (b := .append) (xs := #[.tmp 64, .tmp 67]) rfl ?_); at_builtin; refine Kd.R_append k93 (w0 := w0) w0.heap.size rfl (.tmp 64) (.tmp 67) 49 93 (.agg #[(.int .i64 0), (.int .i64 0), (.int .i64 0)]) 24 rfl Try.underlying49 info93 rfl (by decide) (by omega) v252 y251 (⟨x13_2, (-1), (-1)⟩ : S93) [.int .i64 x13_2, .int .i64 (-1), .int .i64 (-1)] (fun k_ => (P4_ k_ ∨ w.heap.size ≤ k_) ∧ some k_ ≠ (.slice Ao56 l4.length co56 : Value).ownBlock) (fun _ => False) rfl rfl ?aP (fun _ hk => hk.elim) ?aF ?aO ?aB ?aS ?aL ?_; (case aP => exact k93_mkM _ _ _ (⟨x13_2, (-1), (-1)⟩ : S93)); (case aB => exact (below_at HB.out)); (case aF => exact (fun k_ hk => ⟨(.inr (Nat.le_trans (by first | exact HK.out.1 | exact (show Kept w _ (fun k_ => P4_ k_) from by repeat (first | (with_reducible first | exact HK.out | apply Kept.alloc | apply Kept.drewN | apply Kept.drew) | exact HK.out)).1) hk)), Kd.fresh' (Kd.R_lt (Kd.R_below HO_4.out lt_)) k_ hk⟩)); (case aO => exact (Kd.R_below HO253.out lt_)); (case aS => exact (below_size (below_at HB.out))); (case aL => have := LMc21.out; omega); intro v255 w60 ho hb hg hat; rw [← Ny254.out] at ho; replace HO_4 := mk_ (Kd.R_after (ok := (fun k_ => (P4_ k_ ∨ w.heap.size ≤ k_))) (Kd.R_below HO_4.out lt_) hg hat); replace HB := mk_ (hb); replace HK := mk_ (Kept.of_grown (S := (fun k_ => P4_ k_)) hg (by repeat (first | (with_reducible first | exact HK.out | apply Kept.alloc | apply Kept.drewN | apply Kept.drew) | exact HK.out)) (fun k_ e_ => (HO253.out.1 k_ e_).1)); have HO256 := mk_ (ho); (try clear HO253); clear ho hb hg hat) | ((with_reducible refine gate_dst (N := 69) rfl ?_); refine Kd.R_lit (Kd.int .i64) _ 3 ?hg (N := 69) ?hd (xs := ([] : List Int)) (inner := []) (ok := fun _ => True) (okp := fun _ => True) ?hr ?hp (fun _ hk => hk) trivial (Below.refl _ _) (Nat.le_refl _) (by simp) ?_; (case hd => rfl); (case hg => rfl); (case hr => first | (go_simp; done) | (go_simp; rfl)); (case hp => exact (Reps.none _ _)); intro v258 w61 ho62 hb hg_ hnew_; clear hg_ hnew_; (first | rw [← Ny257.out] at ho62 | (simp only [Int.reduceToNat] at ho62; rw [← Ny257.out] at ho62)); replace HO_4 := mk_ (Kd.R_below (Kd.R_below HO_4.out lt_) hb); replace HO256 := mk_ (Kd.R_below (Kd.R_below HO256.out lt_) hb); have HO259 := mk_ (Kd.R_lower (Kd.R_newM (M := fun k_ => (P4_ k_ ∨ w.heap.size ≤ k_)) ho62 (by first | exact HK.out.1 | exact (show Kept w _ (fun k_ => P4_ k_) from by repeat (first | (with_reducible first | exact HK.out | apply Kept.alloc | apply Kept.drewN | apply Kept.drew) | exact HK.out)).1) (fun k_ h_ => .inr h_)) (below_size (below_at HB.out))); replace HK := mk_ (Kept.below (S := (fun k_ => P4_ k_)) (by repeat (first | (with_reducible first | exact HK.out | apply Kept.alloc | apply Kept.drewN | apply Kept.drew) | exact HK.out)) hb); replace HB := mk_ (below_step (below_at HB.out) hb); clear hb ho62) | ((with_reducible refine gate_builtin (b := .append) (xs := #[.tmp 69, .tmp 70]) rfl ?_); at_builtin; refine Kd.R_append_rows (Kd.int .i64) (w0 := w0) w0.heap.size rfl (.tmp 69) (.tmp 70) 42 3 (.int .i64 0) 8 rfl Try.underlying42 info3 rfl (by decide) (by omega) v258 y257 l3 _ _ _ (fun k_ => (P4_ k_ ∨ w.heap.size ≤ k_)) (fun _ => False) rfl rfl ?aO ?aR (fun _ _ h => h) (fun _ h => h.elim) ?aF ?aB ?aS ?aL ?_; (case aR => exact Kd.C_kept_now HR3.out (by repeat (first | (with_reducible first | exact HK.out | apply Kept.alloc | apply Kept.drewN | apply Kept.drew) | exact HK.out))); (case aB => exact (below_at HB.out)); (case aF => exact (fun k_ hk => (.inr (Nat.le_trans (by first | exact HK.out.1 | exact (show Kept w _ (fun k_ => P4_ k_) from by repeat (first | (with_reducible first | exact HK.out | apply Kept.alloc | apply Kept.drewN | apply Kept.drew) | exact HK.out)).1) hk)))); (case aO => exact (Kd.R_below (Kd.R_mono HO259.out (fun _ hk => hk.1)) lt_)); (case aS => exact (below_size (below_at HB.out))); (case aL => have := LMc22.out; omega); intro v261 w63 ho hb hg hat; rw [← Ny260.out] at ho; replace HO_4 := mk_ (Kd.R_over' (Kd.R_below HO_4.out lt_) (Kd.R_typed (Kd.R_below HO259.out lt_)) (by decide) hg); replace HO256 := mk_ (Kd.R_over' (Kd.R_below HO256.out lt_) (Kd.R_typed (Kd.R_below HO259.out lt_)) (by decide) hg); replace HB := mk_ (hb); replace HK := mk_ (Kept.of_grown (S := (fun k_ => P4_ k_)) hg (by repeat (first | (with_reducible first | exact HK.out | apply Kept.alloc | apply Kept.drewN | apply Kept.drew) | exact HK.out)) (fun k_ e_ => (HO259.out.1 k_ e_).1)); have HO262 := mk_ (ho); (try clear HO259); clear ho hb hg hat; have p25 : 0 ≤ (x13_2 : Int) := oa_; have q25 : (x13_2 : Int) < ((y260.length : Int) : Int) := oa_; obtain ⟨go25, co25, eo25, gb25, gl25, cl25, HG25⟩ := Kd.R_form HO262.out (by omega); (first | cases eo25 | (injection eo25 with ea_ en_ ec_; (first | subst ea_ | (injection ea_ with ea_; subst ea_)); subst ec_; clear en_)); have GB25 := mk_ gb25; have GG25 := mk_ HG25; clear gb25 gl25 HG25; have HMgo25 := mk_ (show (P4_ go25 ∨ w.heap.size ≤ go25) from (HO262.out.1 _ rfl)); obtain ⟨hx25_0, hf25_0⟩ := Kd.R_celln 0 HO262.out (x13_2 : Int) p25 q25; replace p25 := eq_true p25; replace q25 := eq_true q25; obtain ⟨hy64_, hz64_⟩ := Kd.R_celln 0 HO262.out (x13_2 : Int) (oa_) (oa_); have HP64 := Kd.R_putg HO262.out (x13_2 : Int) 0) | ((with_reducible refine gate_store (t := 3) (p := 74) rfl ?_); refine store_event (t := 3) (p := 74) (v := ?vo_w65) (w1 := (w63.setCell ⟨go25, (x13_2 : Int).toNat, none⟩ (.int .i64 0))) ?hg ?ho ?hn ?hr ?_; (case ho => rfl); (case hg => rfl); (case hn => rfl); (case hr => first | (go_simp; done) | (go_simp; rfl)); intro w65 hw; have hg : w63.grownBy w65 (some go25) := (by rw [hw]; exact HP64.2); have hp_ : Kd.R (Kd.int .i64) 3 w65 w0.heap.size (fun k_ => (P4_ k_ ∨ w.heap.size ≤ k_)) (.slice (some ⟨go25, 0, none⟩) y260.length co25) y263 := (by rw [hw, Ny263.out]; exact HP64.1); clear HP64; replace HO_4 := mk_ (Kd.R_over' (v := (.slice (some ⟨go25, 0, none⟩) y260.length co25)) (Kd.R_below HO_4.out lt_) (Kd.R_typed HO262.out) (by decide) hg); replace HO256 := mk_ (Kd.R_over' (v := (.slice (some ⟨go25, 0, none⟩) y260.length co25)) (Kd.R_below HO256.out lt_) (Kd.R_typed HO262.out) (by decide) hg); replace HB := mk_ ((by rw [hw]; exact below_set (HB.out) GB25.out : Below w0.heap.size w0 w65)); replace HK := mk_ (Kept.of_grown (S := (fun k_ => P4_ k_)) hg (by repeat (first | (with_reducible first | exact HK.out | apply Kept.alloc | apply Kept.drewN | apply Kept.drew) | exact HK.out)) (fun k_ e_ => (HO262.out.1 k_ e_))); replace HO262 := mk_ (hp_); clear hg hw hp_) | ((with_reducible refine gate_dst (N := 75) rfl ?_); refine Kd.R_lit (Kd.int .i64) _ 3 ?hg (N := 75) ?hd (xs := ([] : List Int)) (inner := []) (ok := fun _ => True) (okp := fun _ => True) ?hr ?hp (fun _ hk => hk) trivial (Below.refl _ _) (Nat.le_refl _) (by simp) ?_; (case hd => rfl); (case hg => rfl); (case hr => first | (go_simp; done) | (go_simp; rfl)); (case hp => exact (Reps.none _ _)); intro v265 w66 ho67 hb hg_ hnew_; clear hg_ hnew_; (first | rw [← Ny264.out] at ho67 | (simp only [Int.reduceToNat] at ho67; rw [← Ny264.out] at ho67)); replace HO_4 := mk_ (Kd.R_below (Kd.R_below HO_4.out lt_) hb); replace HO256 := mk_ (Kd.R_below (Kd.R_below HO256.out lt_) hb); have HO266 := mk_ (Kd.R_lower (Kd.R_new' (Kd.R_newM (M := fun k_ => (P4_ k_ ∨ w.heap.size ≤ k_)) ho67 (by first | exact HK.out.1 | exact (show Kept w _ (fun k_ => P4_ k_) from by repeat (first | (with_reducible first | exact HK.out | apply Kept.alloc | apply Kept.drewN | apply Kept.drew) | exact HK.out)).1) (fun k_ h_ => .inr h_)) (Kd.R_lt (Kd.R_below HO262.out lt_))) (below_size (below_at HB.out))); replace HO262 := mk_ (Kd.R_elder' (Kd.R_below HO262.out lt_) (Kd.R_base ho67) hb); replace HK := mk_ (Kept.below (S := (fun k_ => P4_ k_)) (by repeat (first | (with_reducible first | exact HK.out | apply Kept.alloc | apply Kept.drewN | apply Kept.drew) | exact HK.out)) hb); replace HB := mk_ (below_step (below_at HB.out) hb); clear hb ho67) | ((with_reducible refine gate_builtin (b := .append) (xs := #[.tmp 75, .tmp 76]) rfl ?_); at_builtin; refine Kd.R_append_rows (Kd.int .i64) (w0 := w0) w0.heap.size rfl (.tmp 75) (.tmp 76) 42 3 (.int .i64 0) 8 rfl Try.underlying42 info3 rfl (by decide) (by omega) v265 y264 l3 _ _ _ (fun k_ => (P4_ k_ ∨ w.heap.size ≤ k_) ∧ some k_ ≠ (.slice (some ⟨go25, 0, none⟩) y260.length co25 : Value).ownBlock) (fun _ => False) rfl rfl ?aO ?aR (fun _ _ h => h) (fun _ h => h.elim) ?aF ?aB ?aS ?aL ?_; (case aR => exact Kd.C_kept_now HR3.out (by repeat (first | (with_reducible first | exact HK.out | apply Kept.alloc | apply Kept.drewN | apply Kept.drew) | exact HK.out))); (case aB => exact (below_at HB.out)); (case aF => exact (fun k_ hk => ⟨(.inr (Nat.le_trans (by first | exact HK.out.1 | exact (show Kept w _ (fun k_ => P4_ k_) from by repeat (first | (with_reducible first | exact HK.out | apply Kept.alloc | apply Kept.drewN | apply Kept.drew) | exact HK.out)).1) hk)), Kd.fresh' (Kd.R_lt (Kd.R_below HO262.out lt_)) k_ hk⟩)); (case aO => exact (Kd.R_below (Kd.R_mono HO266.out (fun _ hk => ⟨hk.1.1, hk.2⟩)) lt_)); (case aS => exact (below_size (below_at HB.out))); (case aL => have := LMc26.out; omega); intro v268 w68 ho hb hg hat; rw [← Ny267.out] at ho; replace HO_4 := mk_ (Kd.R_over' (Kd.R_below HO_4.out lt_) (Kd.R_typed (Kd.R_below HO266.out lt_)) (by decide) hg); replace HO256 := mk_ (Kd.R_over' (Kd.R_below HO256.out lt_) (Kd.R_typed (Kd.R_below HO266.out lt_)) (by decide) hg); replace HO262 := mk_ (Kd.R_after (ok := (fun k_ => (P4_ k_ ∨ w.heap.size ≤ k_))) (Kd.R_below HO262.out lt_) hg hat); replace HB := mk_ (hb); replace HK := mk_ (Kept.of_grown (S := (fun k_ => P4_ k_)) hg (by repeat (first | (with_reducible first | exact HK.out | apply Kept.alloc | apply Kept.drewN | apply Kept.drew) | exact HK.out)) (fun k_ e_ => (HO266.out.1 k_ e_).1.1)); have HO269 := mk_ (ho); (try clear HO266); clear ho hb hg hat; have p28 : 0 ≤ (x13_2 : Int) := oa_; have q28 : (x13_2 : Int) < ((y267.length : Int) : Int) := oa_; obtain ⟨go28, co28, eo28, gb28, gl28, cl28, HG28⟩ := Kd.R_form HO269.out (by omega); (first | cases eo28 | (injection eo28 with ea_ en_ ec_; (first | subst ea_ | (injection ea_ with ea_; subst ea_)); subst ec_; clear en_)); have GB28 := mk_ gb28; have GG28 := mk_ HG28; clear gb28 gl28 HG28; have HMgo28 := mk_ (show (P4_ go28 ∨ w.heap.size ≤ go28) from (HO269.out.1 _ rfl).1); obtain ⟨hx28_0, hf28_0⟩ := Kd.R_celln 0 HO269.out (x13_2 : Int) p28 q28; replace p28 := eq_true p28; replace q28 := eq_true q28; obtain ⟨hy69_, hz69_⟩ := Kd.R_celln 0 HO269.out (x13_2 : Int) (oa_) (oa_); have HP69 := Kd.R_putg HO269.out (x13_2 : Int) 1) | ((with_reducible refine gate_store (t := 3) (p := 80) rfl ?_); refine store_event (t := 3) (p := 80) (v := ?vo_w70) (w1 := (w68.setCell ⟨go28, (x13_2 : Int).toNat, none⟩ (.int .i64 1))) ?hg ?ho ?hn ?hr ?_; (case ho => rfl); (case hg => rfl); (case hn => rfl); (case hr => first | (go_simp; done) | (go_simp; rfl)); intro w70 hw; have hg : w68.grownBy w70 (some go28) := (by rw [hw]; exact HP69.2); have hp_ : Kd.R (Kd.int .i64) 3 w70 w0.heap.size (fun k_ => (P4_ k_ ∨ w.heap.size ≤ k_) ∧ some k_ ≠ (.slice (some ⟨go25, 0, none⟩) y260.length co25 : Value).ownBlock) (.slice (some ⟨go28, 0, none⟩) y267.length co28) y270 := (by rw [hw, Ny270.out]; exact HP69.1); clear HP69; replace HO_4 := mk_ (Kd.R_over' (v := (.slice (some ⟨go28, 0, none⟩) y267.length co28)) (Kd.R_below HO_4.out lt_) (Kd.R_typed HO269.out) (by decide) hg); replace HO256 := mk_ (Kd.R_over' (v := (.slice (some ⟨go28, 0, none⟩) y267.length co28)) (Kd.R_below HO256.out lt_) (Kd.R_typed HO269.out) (by decide) hg); replace HO262 := mk_ (Kd.R_after (v := (.slice (some ⟨go28, 0, none⟩) y267.length co28)) (v1 := (.slice (some ⟨go28, 0, none⟩) y267.length co28)) (ok := (fun k_ => (P4_ k_ ∨ w.heap.size ≤ k_))) (Kd.R_below HO262.out lt_) hg (.inl rfl)); replace HB := mk_ ((by rw [hw]; exact below_set (HB.out) GB28.out : Below w0.heap.size w0 w70)); replace HK := mk_ (Kept.of_grown (S := (fun k_ => P4_ k_)) hg (by repeat (first | (with_reducible first | exact HK.out | apply Kept.alloc | apply Kept.drewN | apply Kept.drew) | exact HK.out)) (fun k_ e_ => (HO269.out.1 k_ e_).1)); replace HO269 := mk_ (hp_); clear hg hw hp_; obtain ⟨Ao71, co71, eo71⟩ := Kd.R_slice HO256.out; subst eo71) | ((with_reducible refine gate_callee (f := 78) rfl ?_); refine goesL_ (some 87) rfl rfl Try.func78 (by kernel_rfl) rfl #[.int .i64 a0, .slice A1 l1.length c1, .slice A2 l2.length c2, .slice (some ⟨go25, 0, none⟩) y263.length co25, .slice Ao71 y254.length co71] rfl (by (try simp only [List.map_toArray, List.map_cons, List.map_nil]); first | done | (rw [show y263.length = y260.length from (Kd.R_reads' HO262.out).1.symm] <;> rfl) | rfl | (simp only [List.length_drop, List.length_take]; rfl)) ?_; (with_reducible refine (ih k2 (by have := HK1.out; have := HK2.out; omega) a0 _ _ l1 _ _ l2 _ _ y263 (fun k_ => some k_ = (.slice Ao71 y254.length co71 : Value).ownBlock) (.slice Ao71 y254.length co71) y254 t271 t274 false w0 _ ?side1 ?side2 ?side3 ?side4 ?side5 ?side6 ?side7 ?side8 A29.out).mono ?_); (case side1 => exact below_at HB.out); (case side2 => exact Kd.C_kept_call HR1.out (by repeat (first | (with_reducible first | exact HK.out | apply Kept.alloc | apply Kept.drewN | apply Kept.drew) | exact HK.out)) (fun k_ hs_ => (fun e_ => (HO256.out.1 k_ e_.symm).1) hs_)); (case side3 => exact HC1.out); (case side4 => exact Kd.C_kept_call HR2.out (by repeat (first | (with_reducible first | exact HK.out | apply Kept.alloc | apply Kept.drewN | apply Kept.drew) | exact HK.out)) (fun k_ hs_ => (fun e_ => (HO256.out.1 k_ e_.symm).1) hs_)); (case side5 => exact HC2.out); (case side6 => first | exact Kd.C_kept_own ((Kd.R_apart' HO262.out (Kd.R_typed HO256.out) (by decide))) (fun k_ hk_ hs_ => (hk_.2) hs_) | (rw [show y263.length = y260.length from (Kd.R_reads' HO262.out).1.symm]; exact Kd.C_kept_own ((Kd.R_apart' HO262.out (Kd.R_typed HO256.out) (by decide))) (fun k_ hk_ hs_ => (hk_.2) hs_))); (case side7 => rw [show y263.length = y260.length from (Kd.R_reads' HO262.out).1.symm]; exact (Kd.R_reads' HO262.out).2.1); (case side8 => exact Kd.R_tight rfl HO256.out); rintro e w72 ⟨v272, rfl, ho0, hb, hkp⟩; refine ⟨_, rfl, ?_⟩; replace HO269 := mk_ (Kd.R_mono (ok' := fun k_ => (P4_ k_ ∨ w.heap.size ≤ k_) ∧ some k_ ≠ (.slice (some ⟨go25, 0, none⟩) y260.length co25 : Value).ownBlock) (Kd.R_keptB ((Kd.R_apart' HO269.out (Kd.R_typed HO256.out) (by decide))) hkp (fun k_ hk_ hs_ => (hk_.2) hs_)) (fun k_ hk_ => ⟨hk_.1.1.1, hk_.1.1.2⟩)); have HO273 := mk_ (Kd.R_mono (ok' := fun k_ => (P4_ k_ ∨ w.heap.size ≤ k_) ∧ some k_ ≠ (.slice Ao56 l4.length co56 : Value).ownBlock) ho0 (fun k_ hk_ => ⟨Or.elim hk_ (fun hs_ => (HO256.out.1 k_ (hs_).symm).1) (fun hn_ => (.inr (Nat.le_trans (by first | exact HK.out.1 | exact (show Kept w _ (fun k_ => P4_ k_) from by repeat (first | (with_reducible first | exact HK.out | apply Kept.alloc | apply Kept.drewN | apply Kept.drew) | exact HK.out)).1) hn_))), Or.elim hk_ (fun hs_ => fun e_ => (((HO_4.out).1 k_ e_.symm).2) hs_) (fun hn_ => (Kd.fresh' (Kd.R_lt (Kd.R_below HO_4.out lt_)) k_ hn_))⟩)); replace HO_4 := mk_ (Kd.R_mono (ok' := fun k_ => (P4_ k_ ∨ w.heap.size ≤ k_) ∧ some k_ ≠ (v272 : Value).ownBlock) (Kd.R_keptB (HO_4.out) hkp (fun k_ hk_ hs_ => (hk_.2) hs_)) (fun k_ hk_ => ⟨hk_.1.1, fun e_ => Or.elim (ho0.1 k_ e_.symm) (fun hs_ => hk_.2.1 hs_) (fun hn_ => Nat.not_le.2 hk_.2.2 hn_)⟩)); replace HK := mk_ (Kept.then_ (S := (fun k_ => P4_ k_)) (by repeat (first | (with_reducible first | exact HK.out | apply Kept.alloc | apply Kept.drewN | apply Kept.drew) | exact HK.out)) hkp (fun k_ hs_ => (fun e_ => (HO256.out.1 k_ e_.symm).1) hs_)); replace HB := mk_ (hb); (try clear HO262 HO256); (try clear hb); (try clear hkp); (try clear ho0); obtain ⟨Ao73, co73, eo73⟩ := Kd.R_slice HO273.out; subst eo73) | ((with_reducible refine gate_callee (f := 78) rfl ?_); refine goesL_ (some 97) rfl rfl Try.func78 (by kernel_rfl) rfl #[.int .i64 a0, .slice A1 l1.length c1, .slice A2 l2.length c2, .slice (some ⟨go28, 0, none⟩) y270.length co28, .slice Ao73 t271.length co73] rfl (by (try simp only [List.map_toArray, List.map_cons, List.map_nil]); first | done | (rw [show y270.length = y267.length from (Kd.R_reads' HO269.out).1.symm] <;> rfl) | rfl | (simp only [List.length_drop, List.length_take]; rfl)) ?_; (with_reducible refine (ih k2 (by have := HK1.out; have := HK2.out; omega) a0 _ _ l1 _ _ l2 _ _ y270 (fun k_ => some k_ = (.slice Ao73 t271.length co73 : Value).ownBlock) (.slice Ao73 t271.length co73) t271 t276 t279 t280 w0 _ ?side1 ?side2 ?side3 ?side4 ?side5 ?side6 ?side7 ?side8 A30.out).mono ?_); (case side1 => exact below_at HB.out); (case side2 => exact Kd.C_kept_call HR1.out (by repeat (first | (with_reducible first | exact HK.out | apply Kept.alloc | apply Kept.drewN | apply Kept.drew) | exact HK.out)) (fun k_ hs_ => (fun e_ => (HO273.out.1 k_ e_.symm).1) hs_)); (case side3 => exact HC1.out); (case side4 => exact Kd.C_kept_call HR2.out (by repeat (first | (with_reducible first | exact HK.out | apply Kept.alloc | apply Kept.drewN | apply Kept.drew) | exact HK.out)) (fun k_ hs_ => (fun e_ => (HO273.out.1 k_ e_.symm).1) hs_)); (case side5 => exact HC2.out); (case side6 => first | exact Kd.C_kept_own ((Kd.R_apart' HO269.out (Kd.R_typed HO273.out) (by decide))) (fun k_ hk_ hs_ => (hk_.2) hs_) | (rw [show y270.length = y267.length from (Kd.R_reads' HO269.out).1.symm]; exact Kd.C_kept_own ((Kd.R_apart' HO269.out (Kd.R_typed HO273.out) (by decide))) (fun k_ hk_ hs_ => (hk_.2) hs_))); (case side7 => rw [show y270.length = y267.length from (Kd.R_reads' HO269.out).1.symm]; exact (Kd.R_reads' HO269.out).2.1); (case side8 => exact Kd.R_tight rfl HO273.out); rintro e w74 ⟨v277, rfl, ho0, hb, hkp⟩; refine ⟨_, rfl, ?_⟩; have HO278 := mk_ (Kd.R_mono (ok' := fun k_ => (P4_ k_ ∨ w.heap.size ≤ k_) ∧ some k_ ≠ (.slice Ao56 l4.length co56 : Value).ownBlock) ho0 (fun k_ hk_ => ⟨Or.elim hk_ (fun hs_ => (HO273.out.1 k_ (hs_).symm).1) (fun hn_ => (.inr (Nat.le_trans (by first | exact HK.out.1 | exact (show Kept w _ (fun k_ => P4_ k_) from by repeat (first | (with_reducible first | exact HK.out | apply Kept.alloc | apply Kept.drewN | apply Kept.drew) | exact HK.out)).1) hn_))), Or.elim hk_ (fun hs_ => fun e_ => (((HO_4.out).1 k_ e_.symm).2) hs_) (fun hn_ => (Kd.fresh' (Kd.R_lt (Kd.R_below HO_4.out lt_)) k_ hn_))⟩)); replace HK := mk_ (Kept.then_ (S := (fun k_ => P4_ k_)) (by repeat (first | (with_reducible first | exact HK.out | apply Kept.alloc | apply Kept.drewN | apply Kept.drew) | exact HK.out)) hkp (fun k_ hs_ => (fun e_ => (HO273.out.1 k_ e_.symm).1) hs_)); replace HB := mk_ (hb); (try clear HO_4 HO262 HO269 HO273); (try clear hb); (try clear hkp); (try clear ho0); have p33 : 0 ≤ ((l4.length : Int) : Int) := oa_; have q33 : ((l4.length : Int) : Int) < ((t276.length : Int) : Int) := oa_; obtain ⟨go33, co33, eo33, gb33, gl33, cl33, HG33⟩ := Kd.R_form HO278.out (by omega); (first | cases eo33 | (injection eo33 with ea_ en_ ec_; (first | subst ea_ | (injection ea_ with ea_; subst ea_)); subst ec_; clear en_)); have GB33 := mk_ gb33; have GG33 := mk_ HG33; clear gb33 gl33 HG33; have HMgo33 := mk_ (show (P4_ go33 ∨ w.heap.size ≤ go33) from (HO278.out.1 _ rfl).1); obtain ⟨ce33, hcl33, hM33, hcc33, hfr33⟩ := Kd.R_elem HO278.out z93 ((l4.length : Int) : Int) p33 q33; obtain rfl := k93_openM hM33; have hx33_0 : w74.cell? ⟨go33, l4.length * 3, none⟩ = some (.int .i64 ((rd_T93 t276 (l4.length : Int)).f0)) := hcc33 0 _ rfl; have hx33_1 : w74.cell? ⟨go33, l4.length * 3 + 1, none⟩ = some (.int .i64 ((rd_T93 t276 (l4.length : Int)).f1)) := hcc33 1 _ rfl; have hx33_2 : w74.cell? ⟨go33, l4.length * 3 + 2, none⟩ = some (.int .i64 ((rd_T93 t276 (l4.length : Int)).f2)) := hcc33 2 _ rfl; have hf33_0 : w74.frozen? ⟨go33, l4.length * 3, none⟩ = false := hfr33 0; have hf33_1 : w74.frozen? ⟨go33, l4.length * 3 + 1, none⟩ = false := hfr33 1; have hf33_2 : w74.frozen? ⟨go33, l4.length * 3 + 2, none⟩ = false := hfr33 2; (try clear hM33); clear hcl33 hcc33 hfr33; replace p33 := eq_true p33; replace q33 := eq_true q33; have HX75 := mk_ (show Kd.R k93 93 w74 w0.heap.size (fun k_ => (P4_ k_ ∨ w.heap.size ≤ k_) ∧ some k_ ≠ (.slice Ao56 l4.length co56 : Value).ownBlock) (.slice (some ⟨go33, 0, none⟩) t276.length co33) t276 from (Kd.R_below HO278.out lt_)); obtain ⟨ce75, hcl75, hM75, hcc75, hfr75⟩ := Kd.R_elem HX75.out z93 ((l4.length : Int) : Int) (oa_) (by have h_ : ((l4.length : Int) : Int) < ((t276.length : Int) : Int) := oa_; first | exact h_ | (have e_ := (Kd.R_reads' HO278.out).1; omega) | simpa using h_); obtain rfl := k93_openM hM75; have HP75 := Kd.R_seg HX75.out ((l4.length : Int) : Int) (oa_) (by have h_ : ((l4.length : Int) : Int) < ((t276.length : Int) : Int) := oa_; first | exact h_ | (have e_ := (Kd.R_reads' HO278.out).1; omega) | simpa using h_) (seg := [.int .i64 x13_2, .int .i64 t274, .int .i64 t279]) (j := 0) hcl75 hcc75 (show 3 ≤ 3 from by decide) (x' := (⟨x13_2, t274, t279⟩ : S93)) (k93_mkM _ _ _ (⟨x13_2, t274, t279⟩ : S93) ) (fun _ hk => hk); have hx75_0 := hcc75 0 _ rfl; (try simp only [show (k93).sz = 3 from rfl, Nat.mul_one, Nat.add_zero, Int.toNat_natCast] at hx75_0); have hf75_0 := hfr75 0; (try simp only [show (k93).sz = 3 from rfl, Nat.mul_one, Nat.add_zero, Int.toNat_natCast] at hf75_0); have hx75_1 := hcc75 1 _ rfl; (try simp only [show (k93).sz = 3 from rfl, Nat.mul_one, Nat.add_zero, Int.toNat_natCast] at hx75_1); have hf75_1 := hfr75 1; (try simp only [show (k93).sz = 3 from rfl, Nat.mul_one, Nat.add_zero, Int.toNat_natCast] at hf75_1); have hx75_2 := hcc75 2 _ rfl; (try simp only [show (k93).sz = 3 from rfl, Nat.mul_one, Nat.add_zero, Int.toNat_natCast] at hx75_2); have hf75_2 := hfr75 2; (try simp only [show (k93).sz = 3 from rfl, Nat.mul_one, Nat.add_zero, Int.toNat_natCast] at hf75_2); (try clear hM75); clear hcl75 hcc75 hfr75) | ((with_reducible refine gate_store (t := 93) (p := 107) rfl ?_); refine store_event (t := 93) (p := 107) (v := ?vo_w76) (w1 := (((w74.setCell ⟨go33, l4.length * 3, none⟩ (.int .i64 x13_2)).setCell ⟨go33, l4.length * 3 + 1, none⟩ (.int .i64 t274)).setCell ⟨go33, l4.length * 3 + 2, none⟩ (.int .i64 t279))) ?hg ?ho ?hn ?hr ?_; (case ho => rfl); (case hg => rfl); (case hn => rfl); (case hr => first | (go_simp; done) | (go_simp; rfl)); intro w76 hw; have hg : w74.grownBy w76 (some go33) := (by rw [hw]; exact HP75.2); have hp_ : Kd.R k93 93 w76 w0.heap.size (fun k_ => (P4_ k_ ∨ w.heap.size ≤ k_) ∧ some k_ ≠ (.slice Ao56 l4.length co56 : Value).ownBlock) (.slice (some ⟨go33, 0, none⟩) t276.length co33) y281 := (by rw [hw, Ny281.out]; exact HP75.1); clear HP75; replace HB := mk_ ((by rw [hw]; exact below_set (below_set (below_set (HB.out) GB33.out) GB33.out) GB33.out : Below w0.heap.size w0 w76)); replace HK := mk_ (Kept.of_grown (S := (fun k_ => P4_ k_)) hg (by repeat (first | (with_reducible first | exact HK.out | apply Kept.alloc | apply Kept.drewN | apply Kept.drew) | exact HK.out)) (fun k_ e_ => (HO278.out.1 k_ e_).1)); replace HO278 := mk_ (hp_); (try clear HO_4 HO262 HO269); clear hg hw hp_))
   go_ret3
   exact ⟨_, er_, by (with_reducible repeat (first | apply Kd.R_alloc | apply Kd.R_drewN | apply Kd.R_drew)); exact Kd.R_mono HO278.out (fun _ hk => hk.1), below_at HB.out, by repeat (first | (with_reducible first | exact HK.out | apply Kept.alloc | apply Kept.drewN | apply Kept.drew) | exact HK.out)⟩

/-! ### spec_FindProof: function 38 -/
def spec_FindProof.j0 : Nat → Int → List (S38) → List (S47) → Bool → Option (Int × (List (S93)) × Bool)
 | 0, _, _, _, _ => none
 | k + 1, x0, x1, x2, x20 => if x20 = true then (some (0, ([] : List (S93)), false)) else ((spec_l11Nothing.f k x0).bind fun t285 => ((spec_l11Grow.f k x0 x1 x2 t285 (([] : List (S93)))).bind fun bt291 => (if bt291.2.2 = true then (some (bt291.2.1, bt291.1, true)) else (some (0, ([] : List (S93)), false)))))
def spec_FindProof.f (k : Nat) (a0 : Int) (l1 : List (S38)) (l2 : List (S47)) : Option (Int × (List (S93)) × Bool) := (spec_StoryOk.f k a0 l1).bind fun t283 => (if t283 = true then ((spec_TermOk.f k a0 l2).bind fun t284 => (spec_FindProof.j0 k a0 l1 l2 (!t284))) else (spec_FindProof.j0 k a0 l1 l2 true))
theorem spec_FindProof.mono_l : ∀ k, (∀ y0 y1 y2 y3, LeO (spec_FindProof.j0 k y0 y1 y2 y3) (spec_FindProof.j0 (k + 1) y0 y1 y2 y3))
 | 0 => fun _ _ _ _ r h => by simp [spec_FindProof.j0] at h
 | k + 1 => by
  have ih0 := spec_FindProof.mono_l k
  ·intro y0 y1 y2 y3
   unfold spec_FindProof.j0
   repeat' first
   | (with_reducible exact ih0 _ _ _ _)
   | (with_reducible exact spec_StoryOk.mono _ _ _)
   | (with_reducible exact spec_TermOk.mono _ _ _)
   | (with_reducible exact spec_l11Grow.mono _ _ _ _ _ _)
   | (with_reducible exact spec_l11Nothing.mono _ _)
   | (with_reducible exact LeO.refl _)
   | (with_reducible exact LeO.none _)
   | (with_reducible refine LeO.ite ?_ ?_)
   | (with_reducible refine LeO.bind ?_ (fun _ => ?_))
theorem spec_FindProof.mono : ∀ a0 a1 a2 k, LeO (spec_FindProof.f k a0 a1 a2) (spec_FindProof.f (k + 1) a0 a1 a2) := by
 intro a0 a1 a2 k
 have ih0 := spec_FindProof.mono_l k
 unfold spec_FindProof.f
 repeat' first
   | (with_reducible exact ih0 _ _ _ _)
   | (with_reducible exact spec_StoryOk.mono _ _ _)
   | (with_reducible exact spec_TermOk.mono _ _ _)
   | (with_reducible exact spec_l11Grow.mono _ _ _ _ _ _)
   | (with_reducible exact spec_l11Nothing.mono _ _)
   | (with_reducible exact LeO.refl _)
   | (with_reducible exact LeO.none _)
   | (with_reducible refine LeO.ite ?_ ?_)
   | (with_reducible refine LeO.bind ?_ (fun _ => ?_))
set_option maxHeartbeats 8000000 in
set_option maxRecDepth 100000 in
theorem spec_FindProof.calls (k : Nat) (a0 : Int) (A1 : Option Addr) (c1 : Nat) (l1 : List (S38)) (A2 : Option Addr) (c2 : Nat) (l2 : List (S47)) (r1 : Int) (r2 : List (S93)) (r3 : Bool) (w : World) (hr1 : Kd.C k38 w A1 l1.length l1) (hc1 : l1.length ≤ c1) (hr2 : Kd.C k47 w A2 l2.length l2) (hc2 : l2.length ≤ c2) (h : spec_FindProof.f k a0 l1 l2 = some (r1, r2, r3)) :
  Calls Try.prog 38 #[.int .i64 a0, .slice A1 l1.length c1, .slice A2 l2.length c2] w fun e w' => ∃ v1_ : Value, e = .returned (.tuple #[.agg #[.int .i64 r1, v1_], .bool r3]) ∧ Kd.R k93 93 w' w.heap.size (fun _ => True) v1_ r2 ∧ Below w.heap.size w w' := by
 have hu51 := Try.underlying51
 have HR1 := mk_ hr1
 have HC1 := mk_ hc1
 clear hr1 hc1
 have HR2 := mk_ hr2
 have HC2 := mk_ hc2
 clear hr2 hc2
 have HB := mk_ (Below.refl w.heap.size w)
 unfold spec_FindProof.f at h
 have H := h
 clear h
 have HC4 := mk_ H
 clear H
 go_enter Try.func38, Try.ntmps38
 go_upto_region 1 with (first | ((with_reducible refine gate_dst (N := 6) rfl ?_); refine box_event ?hg (N := 6) ?hd (cs := #[.int .i64 0, .slice none 0 0]) (t := 51) ?hr ?_; (case hd => rfl); (case hg => rfl); (case hr => first | (go_simp; done) | (go_simp; rfl)); intro gb282 hg w5 hbox hb; have BK282 := mk_ (hbox); have GW282 := mk_ (gb_ hg HB.out); have GE282 := mk_ (gb_ hg HB.out); replace HB := mk_ (below_step (below_at HB.out) hb); clear hb hbox hg))
 (try simp only [Act.put, z0_, z1_, z2_])
 go_cut [20] (fun v20 wc => ∃ (kq : Nat) (x20_3 : Bool), v20 = .bool x20_3 ∧ Aside0 (spec_FindProof.j0 kq a0 l1 l2 x20_3 = some (r1, r2, r3)) ∧ Aside0 (kq ≤ k) ∧ Aside0 (wc.heap[gb282]? = some (.cells #[.int .i64 0, (.slice none 0 0)] 51 (0, 0))) ∧ Aside0 (Below w.heap.size w wc))
 case first =>
  have H := HC4.out
  clear HC4
  replace H := Option.bind_eq_some_iff.mp H
  obtain ⟨t283, A60, H⟩ := H
  try dsimp only at H
  have A6 := mk_ A60
  clear A60
  by_cases c7 : t283 = true
  rotate_left
  ·replace c7 := Bool.eq_false_iff.mpr c7
   subst c7
   rw [if_neg (show ¬ (false = true) by decide)] at H
   have H' := mk_ H
   clear H
   go_wp2_with (first | ((with_reducible refine gate_callee (f := 27) rfl ?_); refine goesL_ (some 13) rfl rfl Try.func27 (by kernel_rfl) rfl #[.int .i64 a0, .slice A1 l1.length c1] rfl gl_ ?_; (with_reducible refine (spec_StoryOk.calls k a0 _ _ l1 false _ ?side1 ?side2 A6.out).mono ?_); (case side1 => exact Kd.C_below (Kd.C_below HR1.out HB.out) lt_); (case side2 => exact HC1.out); rintro e w10 ⟨rfl, hb⟩; refine ⟨_, rfl, ?_⟩; replace BK282 := mk_ (blk_at BK282.out hb); replace HB := mk_ (below_step (at_ HB.out) hb); (try clear hb); (try clear hb2); (try clear hk); (try clear hi)))
   go_meet
   case rel => exact ⟨_, (true), (by first | rfl | (simp; done) | (simp [*]; done)), H', ⟨by first | omega | exact Nat.le_refl _⟩, ⟨by (with_reducible repeat (first | refine blk_drewN ?_ _ | refine blk_drew ?_ | refine blk_alloc ?_ _)); exact BK282.out⟩, ⟨at_ HB.out⟩⟩
  subst c7
  rw [if_pos rfl] at H
  replace H := Option.bind_eq_some_iff.mp H
  obtain ⟨t284, A80, H⟩ := H
  try dsimp only at H
  have A8 := mk_ A80
  clear A80
  have H' := mk_ H
  clear H
  go_wp2_with (first | ((with_reducible refine gate_callee (f := 27) rfl ?_); refine goesL_ (some 13) rfl rfl Try.func27 (by kernel_rfl) rfl #[.int .i64 a0, .slice A1 l1.length c1] rfl gl_ ?_; (with_reducible refine (spec_StoryOk.calls k a0 _ _ l1 true _ ?side1 ?side2 A6.out).mono ?_); (case side1 => exact Kd.C_below (Kd.C_below HR1.out HB.out) lt_); (case side2 => exact HC1.out); rintro e w9 ⟨rfl, hb⟩; refine ⟨_, rfl, ?_⟩; replace BK282 := mk_ (blk_at BK282.out hb); replace HB := mk_ (below_step (at_ HB.out) hb); (try clear hb); (try clear hb2); (try clear hk); (try clear hi)) | (go_at_call 28; (with_reducible refine (spec_TermOk.calls k a0 _ _ l2 t284 _ ?side1 ?side2 A8.out).mono ?_); (case side1 => exact Kd.C_below (Kd.C_below HR2.out HB.out) lt_); (case side2 => exact HC2.out); rintro e w' ⟨rfl, ⟨nd, rfl⟩⟩))
  go_meet
  case rel => exact ⟨_, (!t284), (by first | rfl | (simp; done) | (simp [*]; done)), H', ⟨by first | omega | exact Nat.le_refl _⟩, ⟨by (with_reducible repeat (first | refine blk_drewN ?_ _ | refine blk_drew ?_ | refine blk_alloc ?_ _)); exact BK282.out⟩, ⟨at_ HB.out⟩⟩
 clear HC4
 try clear c1
 try clear c2
 try clear p2
 try clear c3
 try clear c7
 obtain ⟨kq, x20_3, rfl, HA, HJ3, BK282, HB⟩ := hcut
 cases kq with
 | zero => exact absurd HA.out (by simp [spec_FindProof.j0])
 | succ kj3 =>
  have H := HA.out
  clear HA
  simp only [spec_FindProof.j0] at H
  by_cases c11 : x20_3 = true
  ·subst c11
   rw [if_pos rfl] at H
   simp only [Option.some.injEq, Prod.mk.injEq] at H
   obtain ⟨rfl, rfl, rfl⟩ := H
   have hcz12_0 : wc.cell? ⟨gb282, 0, none⟩ = some (.int .i64 0) := (blk_cell BK282.out 0).trans rfl
   have hcz12_1 : wc.cell? ⟨gb282, 1, none⟩ = some (.slice none 0 0) := (blk_cell BK282.out 1).trans rfl
   have hfz12_0 := blk_frozen BK282.out 0
   have hfz12_1 := blk_frozen BK282.out 1
   go_wp2
   refine bodyPost_ret (results_ct rfl _ _ gb282 51 #[.int .i64 0, .slice none 0 0] (0, 0) _ rfl (by (with_reducible repeat (first | refine blk_drewN ?_ _ | refine blk_drew ?_ | refine blk_alloc ?_ _)); refine blk_put (cs := #[.int .i64 0, .slice none 0 0]) ?_ 1 _ rfl; (with_reducible repeat (first | refine blk_drewN ?_ _ | refine blk_drew ?_ | refine blk_alloc ?_ _)); refine blk_put (cs := #[.int .i64 0, .slice none 0 0]) ?_ 0 _ rfl; (with_reducible repeat (first | refine blk_drewN ?_ _ | refine blk_drew ?_ | refine blk_alloc ?_ _)); exact BK282.out) Try.underlying51 rfl (by kernel_rfl)) rfl ?_
   exact ⟨_, er_, by first | exact Kd.R_nil _ _ _ _ _ | exact Kd.N_nil _ _ _ _ _ | exact Kd.V_nil _ _ _ _ _ | exact Kd.Q_nil _ _ _ _ _ | exact Kd.S_nil _ _ _ _ _, at_ HB.out⟩
  replace c11 := Bool.eq_false_iff.mpr c11
  subst c11
  rw [if_neg (show ¬ (false = true) by decide)] at H
  replace H := Option.bind_eq_some_iff.mp H
  obtain ⟨t285, A130, H⟩ := H
  try dsimp only at H
  have A13 := mk_ A130
  clear A130
  obtain ⟨y288, hy288⟩ : ∃ y_ : List (S93), y_ = (([] : List (S93))) := ⟨_, rfl⟩
  replace H : ((spec_l11Grow.f kj3 a0 l1 l2 t285 y288).bind fun bt291 => (if bt291.2.2 = true then (some (bt291.2.1, bt291.1, true)) else (some (0, ([] : List (S93)), false)))) = some (r1, r2, r3) := by first | (rw [hy288]; exact H) | exact H
  have Ny288 := mk_ hy288
  clear hy288
  replace H := Option.bind_eq_some_iff.mp H
  obtain ⟨⟨t291, t294, t295⟩, A140, H⟩ := H
  try dsimp only at H
  have A14 := mk_ A140
  clear A140
  by_cases c15 : t295 = true
  rotate_left
  ·replace c15 := Bool.eq_false_iff.mpr c15
   subst c15
   rw [if_neg (show ¬ (false = true) by decide)] at H
   simp only [Option.some.injEq, Prod.mk.injEq] at H
   obtain ⟨rfl, rfl, rfl⟩ := H
   go_wp2_with (first | ((with_reducible refine gate_callee (f := 70) rfl ?_); refine goesL_ (some 27) rfl rfl Try.func70 (by kernel_rfl) rfl #[.int .i64 a0] rfl gl_ ?_; (with_reducible refine (spec_l11Nothing.calls kj3 a0 t285 _ A13.out).mono ?_); rintro e w24 ⟨v286, rfl, ho0, hb⟩; refine ⟨_, rfl, ?_⟩; have HO287 := mk_ (Kd.R_lower ho0 (below_size (at_ HB.out))); replace BK282 := mk_ (blk_at BK282.out hb); replace HB := mk_ (below_step (at_ HB.out) hb); (try clear hb); (try clear hb2); (try clear hk); (try clear hi); (try clear ho0)) | ((with_reducible refine gate_dst (N := 28) rfl ?_); refine Kd.R_lit k93 _ 93 ?hg (N := 28) ?hd (xs := ([] : List (S93))) (inner := []) (ok := fun _ => True) (okp := fun _ => True) ?hr ?hp (fun _ hk => hk) trivial (Below.refl _ _) (Nat.le_refl _) (by simp) ?_; (case hd => rfl); (case hg => rfl); (case hr => first | (go_simp; done) | (go_simp; rfl)); (case hp => exact (Reps.none _ _)); intro v289 w25 ho26 hb hg_ hnew_; clear hg_ hnew_; (first | rw [← Ny288.out] at ho26 | (simp only [Int.reduceToNat] at ho26; rw [← Ny288.out] at ho26)); replace HO287 := mk_ (Kd.R_below (Kd.R_below HO287.out lt_) hb); have HO290 := mk_ (Kd.R_lower ho26 (below_size (at_ HB.out))); replace BK282 := mk_ (blk_at BK282.out hb); replace HB := mk_ (below_step (at_ HB.out) hb); clear hb ho26; obtain ⟨Ao27, co27, eo27⟩ := Kd.R_slice HO287.out; subst eo27; obtain ⟨Ao28, co28, eo28⟩ := Kd.R_slice HO290.out; subst eo28) | ((with_reducible refine gate_callee (f := 78) rfl ?_); refine goesL_ (some 29) rfl rfl Try.func78 (by kernel_rfl) rfl #[.int .i64 a0, .slice A1 l1.length c1, .slice A2 l2.length c2, .slice Ao27 t285.length co27, .slice Ao28 y288.length co28] rfl gl_ ?_; (with_reducible refine (spec_l11Grow.calls kj3 a0 _ _ l1 _ _ l2 _ _ t285 (fun k_ => some k_ = (.slice Ao28 y288.length co28 : Value).ownBlock) (.slice Ao28 y288.length co28) y288 t291 t294 false w _ ?side1 ?side2 ?side3 ?side4 ?side5 ?side6 ?side7 ?side8 A14.out).mono ?_); (case side1 => exact at_ HB.out); (case side2 => exact Kd.C_kept_came k38_heap HR1.out (at_ HB.out) (fun k_ hs_ => (fun e_ => Kd.R_base HO290.out k_ e_.symm) hs_)); (case side3 => exact HC1.out); (case side4 => exact Kd.C_kept_came k47_heap HR2.out (at_ HB.out) (fun k_ hs_ => (fun e_ => Kd.R_base HO290.out k_ e_.symm) hs_)); (case side5 => exact HC2.out); (case side6 => exact Kd.C_kept_own ((Kd.R_apart' HO287.out (Kd.R_typed HO290.out) (by decide))) (fun k_ hk_ hs_ => (hk_.2) hs_)); (case side7 => exact (Kd.R_reads' HO287.out).2.1); (case side8 => exact Kd.R_tight rfl HO290.out); rintro e w29 ⟨v292, rfl, ho0, hb, hkp⟩; refine ⟨_, rfl, ?_⟩; replace BK282 := mk_ (blk_kept (bk_ BK282.out) hkp (fun hs_ => (fun e_ => (Kd.R_ne HO290.out BK282.out (by decide)) e_) hs_)); replace HB := mk_ (hb); (try clear HO287 HO290); (try clear hb); (try clear hkp); (try clear ho0); have hcz30_0 := blk_cell BK282.out 0; have hcz30_1 := blk_cell BK282.out 1; have hfz30_0 := blk_frozen BK282.out 0; have hfz30_1 := blk_frozen BK282.out 1))
   refine bodyPost_ret (results_ct rfl _ _ gb282 51 #[.int .i64 0, .slice none 0 0] (0, 0) _ rfl (by (with_reducible repeat (first | refine blk_drewN ?_ _ | refine blk_drew ?_ | refine blk_alloc ?_ _)); refine blk_put (cs := #[.int .i64 0, .slice none 0 0]) ?_ 1 _ rfl; (with_reducible repeat (first | refine blk_drewN ?_ _ | refine blk_drew ?_ | refine blk_alloc ?_ _)); refine blk_put (cs := #[.int .i64 0, .slice none 0 0]) ?_ 0 _ rfl; (with_reducible repeat (first | refine blk_drewN ?_ _ | refine blk_drew ?_ | refine blk_alloc ?_ _)); exact BK282.out) Try.underlying51 rfl (by kernel_rfl)) rfl ?_
   exact ⟨_, er_, by first | exact Kd.R_nil _ _ _ _ _ | exact Kd.N_nil _ _ _ _ _ | exact Kd.V_nil _ _ _ _ _ | exact Kd.Q_nil _ _ _ _ _ | exact Kd.S_nil _ _ _ _ _, at_ HB.out⟩
  subst c15
  rw [if_pos rfl] at H
  simp only [Option.some.injEq, Prod.mk.injEq] at H
  obtain ⟨rfl, rfl, rfl⟩ := H
  go_wp2_with (first | ((with_reducible refine gate_callee (f := 70) rfl ?_); refine goesL_ (some 27) rfl rfl Try.func70 (by kernel_rfl) rfl #[.int .i64 a0] rfl gl_ ?_; (with_reducible refine (spec_l11Nothing.calls kj3 a0 t285 _ A13.out).mono ?_); rintro e w16 ⟨v286, rfl, ho0, hb⟩; refine ⟨_, rfl, ?_⟩; have HO287 := mk_ (Kd.R_lower ho0 (below_size (at_ HB.out))); replace BK282 := mk_ (blk_at BK282.out hb); replace HB := mk_ (below_step (at_ HB.out) hb); (try clear hb); (try clear hb2); (try clear hk); (try clear hi); (try clear ho0)) | ((with_reducible refine gate_dst (N := 28) rfl ?_); refine Kd.R_lit k93 _ 93 ?hg (N := 28) ?hd (xs := ([] : List (S93))) (inner := []) (ok := fun _ => True) (okp := fun _ => True) ?hr ?hp (fun _ hk => hk) trivial (Below.refl _ _) (Nat.le_refl _) (by simp) ?_; (case hd => rfl); (case hg => rfl); (case hr => first | (go_simp; done) | (go_simp; rfl)); (case hp => exact (Reps.none _ _)); intro v289 w17 ho18 hb hg_ hnew_; clear hg_ hnew_; (first | rw [← Ny288.out] at ho18 | (simp only [Int.reduceToNat] at ho18; rw [← Ny288.out] at ho18)); replace HO287 := mk_ (Kd.R_below (Kd.R_below HO287.out lt_) hb); have HO290 := mk_ (Kd.R_lower ho18 (below_size (at_ HB.out))); replace BK282 := mk_ (blk_at BK282.out hb); replace HB := mk_ (below_step (at_ HB.out) hb); clear hb ho18; obtain ⟨Ao19, co19, eo19⟩ := Kd.R_slice HO287.out; subst eo19; obtain ⟨Ao20, co20, eo20⟩ := Kd.R_slice HO290.out; subst eo20) | ((with_reducible refine gate_callee (f := 78) rfl ?_); refine goesL_ (some 29) rfl rfl Try.func78 (by kernel_rfl) rfl #[.int .i64 a0, .slice A1 l1.length c1, .slice A2 l2.length c2, .slice Ao19 t285.length co19, .slice Ao20 y288.length co20] rfl gl_ ?_; (with_reducible refine (spec_l11Grow.calls kj3 a0 _ _ l1 _ _ l2 _ _ t285 (fun k_ => some k_ = (.slice Ao20 y288.length co20 : Value).ownBlock) (.slice Ao20 y288.length co20) y288 t291 t294 true w _ ?side1 ?side2 ?side3 ?side4 ?side5 ?side6 ?side7 ?side8 A14.out).mono ?_); (case side1 => exact at_ HB.out); (case side2 => exact Kd.C_kept_came k38_heap HR1.out (at_ HB.out) (fun k_ hs_ => (fun e_ => Kd.R_base HO290.out k_ e_.symm) hs_)); (case side3 => exact HC1.out); (case side4 => exact Kd.C_kept_came k47_heap HR2.out (at_ HB.out) (fun k_ hs_ => (fun e_ => Kd.R_base HO290.out k_ e_.symm) hs_)); (case side5 => exact HC2.out); (case side6 => exact Kd.C_kept_own ((Kd.R_apart' HO287.out (Kd.R_typed HO290.out) (by decide))) (fun k_ hk_ hs_ => (hk_.2) hs_)); (case side7 => exact (Kd.R_reads' HO287.out).2.1); (case side8 => exact Kd.R_tight rfl HO290.out); rintro e w21 ⟨v292, rfl, ho0, hb, hkp⟩; refine ⟨_, rfl, ?_⟩; replace BK282 := mk_ (blk_kept (bk_ BK282.out) hkp (fun hs_ => (fun e_ => (Kd.R_ne HO290.out BK282.out (by decide)) e_) hs_)); have HO293 := mk_ (Kd.R_mono (ok' := fun k_ => True) ho0 (fun k_ hk_ => trivial)); replace HB := mk_ (hb); (try clear HO287 HO290); (try clear hb); (try clear hkp); (try clear ho0); obtain ⟨Ao22, co22, eo22⟩ := Kd.R_slice HO293.out; subst eo22; have hcz23_0 := blk_cell BK282.out 0; have hcz23_1 := blk_cell BK282.out 1; have hfz23_0 := blk_frozen BK282.out 0; have hfz23_1 := blk_frozen BK282.out 1))
  refine bodyPost_ret (results_ct rfl _ _ gb282 51 #[.int .i64 t294, .slice Ao22 t291.length co22] (0, 0) _ rfl (by (with_reducible repeat (first | refine blk_drewN ?_ _ | refine blk_drew ?_ | refine blk_alloc ?_ _)); refine blk_put (cs := #[.int .i64 t294, .slice none 0 0]) ?_ 1 _ rfl; (with_reducible repeat (first | refine blk_drewN ?_ _ | refine blk_drew ?_ | refine blk_alloc ?_ _)); refine blk_put (cs := #[.int .i64 0, .slice none 0 0]) ?_ 0 _ rfl; (with_reducible repeat (first | refine blk_drewN ?_ _ | refine blk_drew ?_ | refine blk_alloc ?_ _)); exact BK282.out) Try.underlying51 rfl (by kernel_rfl)) rfl ?_
  exact ⟨_, er_, by (with_reducible repeat (first | apply Kd.R_alloc | apply Kd.R_drewN | apply Kd.R_drew)); exact Kd.R_mono (Kd.R_far (p := ⟨gb282, 1, none⟩) (Kd.R_far (p := ⟨gb282, 0, none⟩) (Kd.R_types HO293.out BK282.out (by decide)) (fun _ hk => hk.2) (.int .i64 t294)) (fun _ hk => hk.2) (.slice Ao22 t291.length co22)) (fun _ hk => trivial), at_ HB.out⟩

/-! ### laws_markMarkS: function 40 -/
def laws_markMarkS.l0 : Nat → List (S47) → Int → Int → Option (Int × (List (S47)))
 | 0, _, _, _ => none
 | k + 1, x0, x1, x5 => if x5 < (x0.length : Int) then (if 0 ≤ x5 then ((some (x0.set (x5 : Int).toNat (⟨x1, (rd_T47 x0 x5).f1⟩ : S47) : List (S47))).bind fun y296 => (laws_markMarkS.l0 k (y296.set (x5 : Int).toNat (⟨(rd_T47 y296 x5).f0, wrap64 (x1 + 1)⟩ : S47)) (wrap64 ((wrap64 (x1 + 1)) + 1)) (wrap64 (x5 + 1)))) else (none)) else (some (x1, x0))
def laws_markMarkS.f (k : Nat) (l0 : List (S47)) (a1 : Int) : Option (Int × (List (S47))) := laws_markMarkS.l0 k l0 a1 0
theorem laws_markMarkS.mono_l : ∀ k, (∀ y0 y1 y2, LeO (laws_markMarkS.l0 k y0 y1 y2) (laws_markMarkS.l0 (k + 1) y0 y1 y2))
 | 0 => fun _ _ _ r h => by simp [laws_markMarkS.l0] at h
 | k + 1 => by
  have ih0 := laws_markMarkS.mono_l k
  ·intro y0 y1 y2
   unfold laws_markMarkS.l0
   repeat' first
   | (with_reducible exact ih0 _ _ _)
   | (with_reducible exact LeO.refl _)
   | (with_reducible exact LeO.none _)
   | (with_reducible refine LeO.ite ?_ ?_)
   | (with_reducible refine LeO.bind ?_ (fun _ => ?_))
theorem laws_markMarkS.mono : ∀ a0 a1 k, LeO (laws_markMarkS.f k a0 a1) (laws_markMarkS.f (k + 1) a0 a1) := by
 intro a0 a1 k
 have ih0 := laws_markMarkS.mono_l k
 unfold laws_markMarkS.f
 repeat' first
   | (with_reducible exact ih0 _ _ _)
   | (with_reducible exact LeO.refl _)
   | (with_reducible exact LeO.none _)
   | (with_reducible refine LeO.ite ?_ ?_)
   | (with_reducible refine LeO.bind ?_ (fun _ => ?_))
set_option maxHeartbeats 8000000 in
set_option maxRecDepth 100000 in
theorem laws_markMarkS.calls (k : Nat) (P0_ : Nat → Prop) (u9000_ : Value) (l0 : List (S47)) (a1 : Int) (r1 : Int) (r2 : List (S47)) (w0 w : World) (hB : Below w0.heap.size w0 w) (ho0 : Kd.R k47 47 w w0.heap.size P0_ u9000_ l0) (h : laws_markMarkS.f k l0 a1 = some (r1, r2)) :
  Calls Try.prog 40 #[u9000_, .int .i64 a1] w fun e w' => e = .returned (.int .i64 r1) ∧ Kd.R k47 47 w' w0.heap.size (fun k_ => (P0_ k_ ∨ w.heap.size ≤ k_)) u9000_ r2 ∧ Below w0.heap.size w0 w' ∧ Kept w w' (fun k_ => P0_ k_) := by
 have HO0 := mk_ (show Kd.R k47 47 w w0.heap.size (fun k_ => (P0_ k_ ∨ w.heap.size ≤ k_)) u9000_ l0 from Kd.R_mono ho0 (fun k_ hk => (.inl hk)))
 have HK := mk_ (Kept.refl w (fun k_ => P0_ k_))
 have HW0 := mk_ hB.size
 have HB := mk_ hB
 clear hB
 have H : (laws_markMarkS.l0 k l0 a1 0) = some (r1, r2) := h
 clear h
 have H' := mk_ H
 clear H
 go_enter Try.func40, Try.ntmps40
 go_wp2
 go_loopg [1, 5] k (fun kq v1 v5 w' => ∃ (x0_1 : List (S47)) (x1_1 : Int) (x5_1 : Int), v1 = .int .i64 x1_1 ∧ v5 = .int .i64 x5_1 ∧ Aside0 (laws_markMarkS.l0 kq x0_1 x1_1 x5_1 = some (r1, r2)) ∧ Aside0 (kq ≤ k) ∧ Aside0 (Kd.R k47 47 w' w0.heap.size (fun k_ => (P0_ k_ ∨ w.heap.size ≤ k_)) u9000_ x0_1) ∧ Aside0 (Kept w w' (fun k_ => P0_ k_)) ∧ Aside0 (Below w0.heap.size w0 w'))
 case atStart => exact ⟨(l0), (a1), (0), (by first | rfl | (simp; done) | (simp [*]; done)), (by first | rfl | (simp; done) | (simp [*]; done)), H', ⟨Nat.le_refl _⟩, ⟨Kd.R_below HO0.out lt_⟩, ⟨by repeat (first | (with_reducible first | exact HK.out | apply Kept.alloc | apply Kept.drewN | apply Kept.drew) | exact HK.out)⟩, ⟨below_at HB.out⟩⟩
 clear H'
 try clear p2
 obtain ⟨x0_1, x1_1, x5_1, rfl, rfl, HA, HK1, HO_0, HK, HB⟩ := hrel
 cases gk with
 | zero => exact absurd HA.out (by simp [laws_markMarkS.l0])
 | succ k1 =>
  have H := HA.out
  clear HA
  simp only [laws_markMarkS.l0] at H
  by_cases c3 : x5_1 < (x0_1.length : Int)
  rotate_left
  ·rw [if_neg c3] at H
   have c3b0 : decide (x5_1 < (x0_1.length : Int)) = false := decide_eq_false c3
   clear c3
   simp only [Option.some.injEq, Prod.mk.injEq] at H
   obtain ⟨rfl, rfl⟩ := H
   obtain ⟨Ao12, co12, eo12⟩ := Kd.R_slice HO_0.out
   subst eo12
   go_wp2
   go_ret
   exact ⟨er_, by (with_reducible repeat (first | apply Kd.R_alloc | apply Kd.R_drewN | apply Kd.R_drew)); exact HO_0.out, below_at HB.out, by repeat (first | (with_reducible first | exact HK.out | apply Kept.alloc | apply Kept.drewN | apply Kept.drew) | exact HK.out)⟩
  rw [if_pos c3] at H
  have c3b0 : decide (x5_1 < (x0_1.length : Int)) = true := decide_eq_true c3
  clear c3
  by_cases c4 : 0 ≤ x5_1
  rotate_left
  ·rw [if_neg c4] at H
   exact absurd H (by simp)
  rw [if_pos c4] at H
  have c4b0 : decide (0 ≤ x5_1) = true := decide_eq_true c4
  clear c4
  obtain ⟨y296, hy296⟩ : ∃ y_ : List (S47), y_ = (x0_1.set (x5_1 : Int).toNat (⟨x1_1, (rd_T47 x0_1 x5_1).f1⟩ : S47)) := ⟨_, rfl⟩
  replace H : (laws_markMarkS.l0 k1 (y296.set (x5_1 : Int).toNat (⟨(rd_T47 y296 x5_1).f0, wrap64 (x1_1 + 1)⟩ : S47)) (wrap64 ((wrap64 (x1_1 + 1)) + 1)) (wrap64 (x5_1 + 1))) = some (r1, r2) := by first | (rw [hy296]; exact H) | exact H
  have Ny296 := mk_ hy296
  clear hy296
  obtain ⟨y297, hy297⟩ : ∃ y_ : List (S47), y_ = (y296.set (x5_1 : Int).toNat (⟨(rd_T47 y296 x5_1).f0, wrap64 (x1_1 + 1)⟩ : S47)) := ⟨_, rfl⟩
  replace H : (laws_markMarkS.l0 k1 y297 (wrap64 ((wrap64 (x1_1 + 1)) + 1)) (wrap64 (x5_1 + 1))) = some (r1, r2) := by first | (rw [hy297]; exact H) | exact H
  have Ny297 := mk_ hy297
  clear hy297
  have H' := mk_ H
  clear H
  obtain ⟨Ao7, co7, eo7⟩ := Kd.R_slice HO_0.out
  subst eo7
  have p5 : 0 ≤ (x5_1 : Int) := oa_
  have q5 : (x5_1 : Int) < ((x0_1.length : Int) : Int) := oa_
  obtain ⟨go5, co5, eo5, gb5, gl5, cl5, HG5⟩ := Kd.R_form HO_0.out (by omega)
  (first | cases eo5 | (injection eo5 with ea_ en_ ec_; (first | subst ea_ | (injection ea_ with ea_; subst ea_)); subst ec_; clear en_))
  have GB5 := mk_ gb5
  have GG5 := mk_ HG5
  clear gb5 gl5 HG5
  have HMgo5 := mk_ (show (P0_ go5 ∨ w.heap.size ≤ go5) from (HO_0.out.1 _ rfl))
  obtain ⟨ce5, hcl5, hM5, hcc5, hfr5⟩ := Kd.R_elem HO_0.out z47 (x5_1 : Int) p5 q5
  obtain rfl := k47_openM hM5
  have hx5_0 : wr.cell? ⟨go5, (x5_1 : Int).toNat * 2, none⟩ = some (.int .i64 ((rd_T47 x0_1 x5_1).f0)) := hcc5 0 _ rfl
  have hx5_1 : wr.cell? ⟨go5, (x5_1 : Int).toNat * 2 + 1, none⟩ = some (.int .i64 ((rd_T47 x0_1 x5_1).f1)) := hcc5 1 _ rfl
  have hf5_0 : wr.frozen? ⟨go5, (x5_1 : Int).toNat * 2, none⟩ = false := hfr5 0
  have hf5_1 : wr.frozen? ⟨go5, (x5_1 : Int).toNat * 2 + 1, none⟩ = false := hfr5 1
  (try clear hM5); clear hcl5 hcc5 hfr5
  replace p5 := eq_true p5
  replace q5 := eq_true q5
  have HX8 := mk_ (show Kd.R k47 47 wr w0.heap.size (fun k_ => (P0_ k_ ∨ w.heap.size ≤ k_)) (.slice (some ⟨go5, 0, none⟩) x0_1.length co7) x0_1 from (Kd.R_below HO_0.out lt_))
  obtain ⟨ce8, hcl8, hM8, hcc8, hfr8⟩ := Kd.R_elem HX8.out z47 (x5_1 : Int) (oa_) (by have h_ : (x5_1 : Int) < ((x0_1.length : Int) : Int) := oa_; first | exact h_ | (have e_ := (Kd.R_reads' HO_0.out).1; omega) | simpa using h_)
  obtain rfl := k47_openM hM8
  have HP8 := Kd.R_seg HX8.out (x5_1 : Int) (oa_) (by have h_ : (x5_1 : Int) < ((x0_1.length : Int) : Int) := oa_; first | exact h_ | (have e_ := (Kd.R_reads' HO_0.out).1; omega) | simpa using h_) (seg := [.int .i64 x1_1]) (j := 0) hcl8 hcc8 (show 1 ≤ 2 from by decide) (x' := (⟨x1_1, (rd_T47 x0_1 x5_1).f1⟩ : S47)) (k47_mkM _ _ _ (⟨x1_1, (rd_T47 x0_1 x5_1).f1⟩ : S47) ) (fun _ hk => hk)
  have hx8_0 := hcc8 0 _ rfl
  (try simp only [show (k47).sz = 2 from rfl, Nat.mul_one, Nat.add_zero] at hx8_0)
  have hf8_0 := hfr8 0
  (try simp only [show (k47).sz = 2 from rfl, Nat.mul_one, Nat.add_zero] at hf8_0)
  (try clear hM8); clear hcl8 hcc8 hfr8
  go_wp2_with (first | ((with_reducible refine gate_store (t := 3) (p := 16) rfl ?_); refine store_event (t := 3) (p := 16) (v := ?vo_w9) (w1 := (wr.setCell ⟨go5, (x5_1 : Int).toNat * 2, none⟩ (.int .i64 x1_1))) ?hg ?ho ?hn ?hr ?_; (case ho => rfl); (case hg => rfl); (case hn => rfl); (case hr => first | (go_simp; done) | (go_simp; rfl)); intro w9 hw; have hg : wr.grownBy w9 (some go5) := (by rw [hw]; exact HP8.2); have hp_ : Kd.R k47 47 w9 w0.heap.size (fun k_ => (P0_ k_ ∨ w.heap.size ≤ k_)) (.slice (some ⟨go5, 0, none⟩) x0_1.length co7) y296 := (by rw [hw, Ny296.out]; exact HP8.1); clear HP8; replace HB := mk_ ((by rw [hw]; exact below_set (HB.out) GB5.out : Below w0.heap.size w0 w9)); replace HK := mk_ (Kept.of_grown (S := (fun k_ => P0_ k_)) hg (by repeat (first | (with_reducible first | exact HK.out | apply Kept.alloc | apply Kept.drewN | apply Kept.drew) | exact HK.out)) (fun k_ e_ => (HO_0.out.1 k_ e_))); replace HO_0 := mk_ (hp_); clear hg hw hp_; have p6 : 0 ≤ (x5_1 : Int) := oa_; have q6 : (x5_1 : Int) < ((x0_1.length : Int) : Int) := oa_; obtain ⟨ce6, hcl6, hM6, hcc6, hfr6⟩ := Kd.R_elem HO_0.out z47 (x5_1 : Int) p6 q6; obtain rfl := k47_openM hM6; have hx6_0 : w9.cell? ⟨go5, (x5_1 : Int).toNat * 2, none⟩ = some (.int .i64 ((rd_T47 y296 x5_1).f0)) := hcc6 0 _ rfl; have hx6_1 : w9.cell? ⟨go5, (x5_1 : Int).toNat * 2 + 1, none⟩ = some (.int .i64 ((rd_T47 y296 x5_1).f1)) := hcc6 1 _ rfl; have hf6_0 : w9.frozen? ⟨go5, (x5_1 : Int).toNat * 2, none⟩ = false := hfr6 0; have hf6_1 : w9.frozen? ⟨go5, (x5_1 : Int).toNat * 2 + 1, none⟩ = false := hfr6 1; (try clear hM6); clear hcl6 hcc6 hfr6; replace p6 := eq_true p6; replace q6 := eq_true q6; have HX10 := mk_ (show Kd.R k47 47 w9 w0.heap.size (fun k_ => (P0_ k_ ∨ w.heap.size ≤ k_)) (.slice (some ⟨go5, 0, none⟩) x0_1.length co7) y296 from (Kd.R_below HO_0.out lt_)); obtain ⟨ce10, hcl10, hM10, hcc10, hfr10⟩ := Kd.R_elem HX10.out z47 (x5_1 : Int) (oa_) (by have h_ : (x5_1 : Int) < ((x0_1.length : Int) : Int) := oa_; first | exact h_ | (have e_ := (Kd.R_reads' HO_0.out).1; omega) | simpa using h_); obtain rfl := k47_openM hM10; have HP10 := Kd.R_seg HX10.out (x5_1 : Int) (oa_) (by have h_ : (x5_1 : Int) < ((x0_1.length : Int) : Int) := oa_; first | exact h_ | (have e_ := (Kd.R_reads' HO_0.out).1; omega) | simpa using h_) (seg := [.int .i64 (wrap64 (x1_1 + 1))]) (j := 1) hcl10 hcc10 (show 2 ≤ 2 from by decide) (x' := (⟨(rd_T47 y296 x5_1).f0, wrap64 (x1_1 + 1)⟩ : S47)) (k47_mkM _ _ _ (⟨(rd_T47 y296 x5_1).f0, wrap64 (x1_1 + 1)⟩ : S47) ) (fun _ hk => hk); have hx10_1 := hcc10 1 _ rfl; (try simp only [show (k47).sz = 2 from rfl, Nat.mul_one, Nat.add_zero] at hx10_1); have hf10_1 := hfr10 1; (try simp only [show (k47).sz = 2 from rfl, Nat.mul_one, Nat.add_zero] at hf10_1); (try clear hM10); clear hcl10 hcc10 hfr10) | ((with_reducible refine gate_store (t := 3) (p := 23) rfl ?_); refine store_event (t := 3) (p := 23) (v := ?vo_w11) (w1 := (w9.setCell ⟨go5, (x5_1 : Int).toNat * 2 + 1, none⟩ (.int .i64 (wrap64 (x1_1 + 1))))) ?hg ?ho ?hn ?hr ?_; (case ho => rfl); (case hg => rfl); (case hn => rfl); (case hr => first | (go_simp; done) | (go_simp; rfl)); intro w11 hw; have hg : w9.grownBy w11 (some go5) := (by rw [hw]; exact HP10.2); have hp_ : Kd.R k47 47 w11 w0.heap.size (fun k_ => (P0_ k_ ∨ w.heap.size ≤ k_)) (.slice (some ⟨go5, 0, none⟩) x0_1.length co7) y297 := (by rw [hw, Ny297.out]; exact HP10.1); clear HP10; replace HB := mk_ ((by rw [hw]; exact below_set (HB.out) GB5.out : Below w0.heap.size w0 w11)); replace HK := mk_ (Kept.of_grown (S := (fun k_ => P0_ k_)) hg (by repeat (first | (with_reducible first | exact HK.out | apply Kept.alloc | apply Kept.drewN | apply Kept.drew) | exact HK.out)) (fun k_ e_ => (HO_0.out.1 k_ e_))); replace HO_0 := mk_ (hp_); clear hg hw hp_))
  go_roundg k1
  case measure => have := HK1.out; omega
  case rel => exact ⟨(y297), (wrap64 ((wrap64 (x1_1 + 1)) + 1)), (wrap64 (x5_1 + 1)), (by first | rfl | (simp; done) | (simp [*]; done)), (by first | rfl | (simp; done) | (simp [*]; done)), H', ⟨by have := HK1.out; omega⟩, ⟨Kd.R_below HO_0.out lt_⟩, ⟨by repeat (first | (with_reducible first | exact HK.out | apply Kept.alloc | apply Kept.drewN | apply Kept.drew) | exact HK.out)⟩, ⟨below_at HB.out⟩⟩

end Go.Proofs.Ytcaogllnbpmcgaa.P

/- Go's functions come to just the answers of the Lean functions told here. -/
import Derived.Test.YtcaogllnbpmcgaaDoorPx1
import Derived.Test.YtcaogllnbpmcgaaDoorPx10
import Derived.Test.YtcaogllnbpmcgaaDoorPx13
namespace Go.Proofs.YtcaogllnbpmcgaaDoor.P
open Go.RowKit Go.Proofs.YtcaogllnbpmcgaaDoorW.PrintWords Go.Proofs.YtcaogllnbpmcgaaDoorW.PrintLast Go.Proofs.YtcaogllnbpmcgaaDoorW.PrintMore
attribute [local go_sem] max2_int min2_int max_two min_two max_three min_three max_four min_four
set_option linter.unusedVariables false
set_option linter.unusedSimpArgs false

attribute [local go_sem high] eqA82
/-! ### impl_ProofText: function 8 -/
noncomputable def impl_ProofText.f (k : Nat) (a0 : Int) (l1 : List (S79)) (l2 : List (S82)) (a3_0 : Int) (l3_1 : List (S68)) : Option (ByteArray) := (impl_ProofOk.f a0 l1 l2 a3_0 l3_1).bind fun t170 => (if t170 = true then ((impl_caseText.f k a3_0 l3_1 a3_0).bind fun t171 => (some t171)) else (some (⟨#[]⟩ : ByteArray)))
theorem impl_ProofText.mono : ∀ a0 a1 a2 a3 a4 k, LeO (impl_ProofText.f k a0 a1 a2 a3 a4) (impl_ProofText.f (k + 1) a0 a1 a2 a3 a4) := by
 intro a0 a1 a2 a3 a4 k
 unfold impl_ProofText.f
 repeat' first
   | (with_reducible exact impl_caseText.mono _ _ _ _)
   | (with_reducible exact LeO.refl _)
   | (with_reducible exact LeO.none _)
   | (with_reducible refine LeO.ite ?_ ?_)
   | (with_reducible refine LeO.bind ?_ (fun _ => ?_))
set_option maxHeartbeats 8000000 in
set_option maxRecDepth 100000 in
theorem impl_ProofText.calls (k : Nat) (a0 : Int) (A1 : Option Addr) (c1 : Nat) (l1 : List (S79)) (A2 : Option Addr) (c2 : Nat) (l2 : List (S82)) (a3_0 : Int) (A3_1 : Option Addr) (c3_1 : Nat) (l3_1 : List (S68)) (r : ByteArray) (w : World) (hr1 : Kd.C k79 w A1 l1.length l1) (hc1 : l1.length ≤ c1) (hr2 : Kd.C k82 w A2 l2.length l2) (hc2 : l2.length ≤ c2) (hr3_1 : Kd.C k68 w A3_1 l3_1.length l3_1) (hc3_1 : l3_1.length ≤ c3_1) (h : impl_ProofText.f k a0 l1 l2 a3_0 l3_1 = some r) :
  Calls Tryd.prog 8 #[.int .i64 a0, .slice A1 l1.length c1, .slice A2 l2.length c2, .agg #[.int .i64 a3_0, .slice A3_1 l3_1.length c3_1]] w fun e w' => e = .returned (.string r) ∧ Below w.heap.size w w' := by
 have hu27 := Tryd.underlying27
 have HR1 := mk_ hr1
 have HC1 := mk_ hc1
 clear hr1 hc1
 have HR2 := mk_ hr2
 have HC2 := mk_ hc2
 clear hr2 hc2
 have HR3_1 := mk_ hr3_1
 have HC3_1 := mk_ hc3_1
 clear hr3_1 hc3_1
 have HB := mk_ (Below.refl w.heap.size w)
 unfold impl_ProofText.f at h
 have H := h
 clear h
 replace H := Option.bind_eq_some_iff.mp H
 obtain ⟨t170, A50, H⟩ := H
 try dsimp only at H
 have A5 := mk_ A50
 clear A50
 by_cases c6 : t170 = true
 rotate_left
 ·replace c6 := Bool.eq_false_iff.mpr c6
  subst c6
  rw [if_neg (show ¬ (false = true) by decide)] at H
  obtain rfl := Option.some.inj H
  go_enter Tryd.func8, Tryd.ntmps8
  go_wp2_with (first | ((with_reducible refine gate_dst (N := 7) rfl ?_); refine box_event ?hg (N := 7) ?hd (cs := #[.int .i64 a3_0, .slice A3_1 l3_1.length c3_1]) (t := 27) ?hr ?_; (case hd => rfl); (case hg => rfl); (case hr => first | (go_simp; done) | (go_simp; rfl)); intro gb169 hg w13 hbox hb; have BK169 := mk_ (hbox); have GW169 := mk_ (gb_ hg HB.out); have GE169 := mk_ (gb_ hg HB.out); replace HB := mk_ (below_step (below_at HB.out) hb); clear hb hbox hg; have hcz14_0 := blk_cell BK169.out 0; have hcz14_1 := blk_cell BK169.out 1; have hfz14_0 := blk_frozen BK169.out 0; have hfz14_1 := blk_frozen BK169.out 1) | ((with_reducible refine gate_callee (f := 10) rfl ?_); refine goesL_ (some 13) rfl rfl Tryd.func10 (by kernel_rfl) rfl #[.int .i64 a0, .slice A1 l1.length c1, .slice A2 l2.length c2, .agg #[.int .i64 a3_0, .slice A3_1 l3_1.length c3_1]] rfl gl_ ?_; (with_reducible refine (impl_ProofOk.calls a0 _ _ l1 _ _ l2 a3_0 _ _ l3_1 false _ ?side1 ?side2 ?side3 ?side4 ?side5 ?side6 A5.out).mono ?_); (case side1 => exact Kd.C_below (Kd.C_below HR1.out HB.out) lt_); (case side2 => exact HC1.out); (case side3 => exact Kd.C_below (Kd.C_below HR2.out HB.out) lt_); (case side4 => exact HC2.out); (case side5 => exact Kd.C_below (Kd.C_below HR3_1.out HB.out) lt_); (case side6 => exact HC3_1.out); rintro e w15 ⟨rfl, hb⟩; refine ⟨_, rfl, ?_⟩; replace HB := mk_ (below_step (at_ HB.out) hb); (try clear BK169); (try clear hb); (try clear hb2); (try clear hk); (try clear hi)))
  go_ret
  exact ⟨er_, at_ HB.out⟩
 subst c6
 rw [if_pos rfl] at H
 replace H := Option.bind_eq_some_iff.mp H
 obtain ⟨t171, A70, H⟩ := H
 replace H : (some t171) = some r := H
 have A7 := mk_ A70
 clear A70
 obtain rfl := Option.some.inj H
 go_enter Tryd.func8, Tryd.ntmps8
 go_wp2_with (first | ((with_reducible refine gate_dst (N := 7) rfl ?_); refine box_event ?hg (N := 7) ?hd (cs := #[.int .i64 a3_0, .slice A3_1 l3_1.length c3_1]) (t := 27) ?hr ?_; (case hd => rfl); (case hg => rfl); (case hr => first | (go_simp; done) | (go_simp; rfl)); intro gb169 hg w8 hbox hb; have BK169 := mk_ (hbox); have GW169 := mk_ (gb_ hg HB.out); have GE169 := mk_ (gb_ hg HB.out); replace HB := mk_ (below_step (below_at HB.out) hb); clear hb hbox hg; have hcz9_0 := blk_cell BK169.out 0; have hcz9_1 := blk_cell BK169.out 1; have hfz9_0 := blk_frozen BK169.out 0; have hfz9_1 := blk_frozen BK169.out 1) | ((with_reducible refine gate_callee (f := 10) rfl ?_); refine goesL_ (some 13) rfl rfl Tryd.func10 (by kernel_rfl) rfl #[.int .i64 a0, .slice A1 l1.length c1, .slice A2 l2.length c2, .agg #[.int .i64 a3_0, .slice A3_1 l3_1.length c3_1]] rfl gl_ ?_; (with_reducible refine (impl_ProofOk.calls a0 _ _ l1 _ _ l2 a3_0 _ _ l3_1 true _ ?side1 ?side2 ?side3 ?side4 ?side5 ?side6 A5.out).mono ?_); (case side1 => exact Kd.C_below (Kd.C_below HR1.out HB.out) lt_); (case side2 => exact HC1.out); (case side3 => exact Kd.C_below (Kd.C_below HR2.out HB.out) lt_); (case side4 => exact HC2.out); (case side5 => exact Kd.C_below (Kd.C_below HR3_1.out HB.out) lt_); (case side6 => exact HC3_1.out); rintro e w10 ⟨rfl, hb⟩; refine ⟨_, rfl, ?_⟩; replace BK169 := mk_ (blk_at BK169.out hb); replace HB := mk_ (below_step (at_ HB.out) hb); (try clear hb); (try clear hb2); (try clear hk); (try clear hi); have hcz11_0 := blk_cell BK169.out 0; have hcz11_1 := blk_cell BK169.out 1; have hfz11_0 := blk_frozen BK169.out 0; have hfz11_1 := blk_frozen BK169.out 1) | ((with_reducible refine gate_callee (f := 31) rfl ?_); refine goesL_ (some 18) rfl rfl Tryd.func31 (by kernel_rfl) rfl #[.agg #[.int .i64 a3_0, .slice A3_1 l3_1.length c3_1], .int .i64 a3_0] rfl gl_ ?_; (with_reducible refine (impl_caseText.calls k a3_0 _ _ l3_1 a3_0 t171 _ ?side1 ?side2 A7.out).mono ?_); (case side1 => exact Kd.C_below (Kd.C_below HR3_1.out HB.out) lt_); (case side2 => exact HC3_1.out); rintro e w12 ⟨rfl, hb⟩; refine ⟨_, rfl, ?_⟩; replace HB := mk_ (below_step (at_ HB.out) hb); (try clear BK169); (try clear hb); (try clear hb2); (try clear hk); (try clear hi)))
 go_ret
 exact ⟨er_, at_ HB.out⟩

/-! ### spec_l1In: function 80 -/
def spec_l1In.f (a0 : Int) (a1 : Int) (a2 : Int) : Option (Bool) := if a0 ≥ a1 then (some (decide (a0 ≤ a2))) else (some false)
set_option maxHeartbeats 8000000 in
set_option maxRecDepth 100000 in
theorem spec_l1In.calls (a0 : Int) (a1 : Int) (a2 : Int) (r : Bool) (w : World) (h : spec_l1In.f a0 a1 a2 = some r) :
  Calls Tryd.prog 80 #[.int .i64 a0, .int .i64 a1, .int .i64 a2] w fun e w' => e = .returned (.bool r) ∧ Drawn0 w w' := by
 have H : (if a0 ≥ a1 then (some (decide (a0 ≤ a2))) else (some false)) = some r := h
 clear h
 by_cases c4 : a0 ≥ a1
 ·rw [if_pos c4] at H
  have c4b0 : decide (a1 ≤ a0) = true := decide_eq_true c4
  clear c4
  obtain rfl := Option.some.inj H
  go_enter Tryd.func80, Tryd.ntmps80
  go_wp2
  go_ret
  exact ⟨by first | rfl | (simp; done) | (simp [*]; done), by repeat (first | exact Drawn0.refl _ | apply Drawn0.step)⟩
 rw [if_neg c4] at H
 have c4b0 : decide (a1 ≤ a0) = false := decide_eq_false c4
 clear c4
 obtain rfl := Option.some.inj H
 go_enter Tryd.func80, Tryd.ntmps80
 go_wp2
 go_ret
 exact ⟨by first | rfl | (simp; done) | (simp [*]; done), by repeat (first | exact Drawn0.refl _ | apply Drawn0.step)⟩

/-! ### spec_TermOk: function 58 -/
mutual
def spec_TermOk.l0 : Nat → Int → List (S82) → Int → Int → Option (Bool)
 | 0, _, _, _, _ => none
 | k + 1, x0, x1, x5, x6 => if x6 < (x1.length : Int) then (if 0 ≤ x6 then (if ((rd_T82 x1 x6).f0) = 0 then (if ((rd_T82 x1 x6).f1) ≥ 0 then (spec_TermOk.j1 k x0 x1 x5 x6 (decide (((rd_T82 x1 x6).f1) < x0))) else (spec_TermOk.j1 k x0 x1 x5 x6 false)) else (spec_TermOk.j1 k x0 x1 x5 x6 false)) else (none)) else ((spec_l1In.f x0 1 4).bind fun t172 => (if t172 = true then (if x5 = 1 then (some (decide ((x1.length : Int) ≤ 15))) else (some false)) else (some false)))
def spec_TermOk.j1 : Nat → Int → List (S82) → Int → Int → Bool → Option (Bool)
 | 0, _, _, _, _, _ => none
 | k + 1, x0, x1, x5, x6, x13 => if x13 = true then (spec_TermOk.l0 k x0 x1 (wrap64 (x5 + 1)) (wrap64 (x6 + 1))) else (if 0 ≤ x6 then (if x6 < (x1.length : Int) then (if ((rd_T82 x1 x6).f0) = 1 then (if ((rd_T82 x1 x6).f1) ≥ 0 then (if ((rd_T82 x1 x6).f1) ≤ x0 then (spec_TermOk.j2 k x0 x1 x5 x6 true) else (spec_TermOk.j2 k x0 x1 x5 x6 ((wrap64 (((rd_T82 x1 x6).f1) - 1)) == x0))) else (spec_TermOk.j2 k x0 x1 x5 x6 false)) else (spec_TermOk.j2 k x0 x1 x5 x6 false)) else (none)) else (none))
def spec_TermOk.j2 : Nat → Int → List (S82) → Int → Int → Bool → Option (Bool)
 | 0, _, _, _, _, _ => none
 | k + 1, x0, x1, x5, x6, x39 => if x39 = true then (spec_TermOk.l0 k x0 x1 (wrap64 (x5 + 1)) (wrap64 (x6 + 1))) else (if 0 ≤ x6 then (if x6 < (x1.length : Int) then (if (((rd_T82 x1 x6).f0) == 2 && (((rd_T82 x1 x6).f1) == 0)) = true then (spec_TermOk.j3 k x0 x1 x5 x6 (decide (x5 ≥ 1))) else (spec_TermOk.j3 k x0 x1 x5 x6 false)) else (none)) else (none))
def spec_TermOk.j3 : Nat → Int → List (S82) → Int → Int → Bool → Option (Bool)
 | 0, _, _, _, _, _ => none
 | k + 1, x0, x1, x5, x6, x75 => if x75 = true then (spec_TermOk.l0 k x0 x1 x5 (wrap64 (x6 + 1))) else (if 0 ≤ x6 then (if x6 < (x1.length : Int) then ((spec_l1In.f ((rd_T82 x1 x6).f0) 3 5).bind fun t182 => (if t182 = true then (if ((rd_T82 x1 x6).f1) = 0 then (if x5 ≥ 2 then (spec_TermOk.l0 k x0 x1 (wrap64 (x5 - 1)) (wrap64 (x6 + 1))) else (some false)) else (some false)) else (some false))) else (none)) else (none))
end
def spec_TermOk.f (k : Nat) (a0 : Int) (l1 : List (S82)) : Option (Bool) := spec_TermOk.l0 k a0 l1 0 0
theorem spec_TermOk.mono_l : ∀ k, (∀ y0 y1 y2 y3, LeO (spec_TermOk.l0 k y0 y1 y2 y3) (spec_TermOk.l0 (k + 1) y0 y1 y2 y3)) ∧ (∀ y0 y1 y2 y3 y4, LeO (spec_TermOk.j1 k y0 y1 y2 y3 y4) (spec_TermOk.j1 (k + 1) y0 y1 y2 y3 y4)) ∧ (∀ y0 y1 y2 y3 y4, LeO (spec_TermOk.j2 k y0 y1 y2 y3 y4) (spec_TermOk.j2 (k + 1) y0 y1 y2 y3 y4)) ∧ (∀ y0 y1 y2 y3 y4, LeO (spec_TermOk.j3 k y0 y1 y2 y3 y4) (spec_TermOk.j3 (k + 1) y0 y1 y2 y3 y4))
 | 0 => ⟨fun _ _ _ _ r h => by simp [spec_TermOk.l0] at h, fun _ _ _ _ _ r h => by simp [spec_TermOk.j1] at h, fun _ _ _ _ _ r h => by simp [spec_TermOk.j2] at h, fun _ _ _ _ _ r h => by simp [spec_TermOk.j3] at h⟩
 | k + 1 => by
  obtain ⟨ih0, ih1, ih2, ih3⟩ := spec_TermOk.mono_l k
  refine ⟨?_, ?_, ?_, ?_⟩
  ·intro y0 y1 y2 y3
   unfold spec_TermOk.l0
   repeat' first
   | (with_reducible exact ih0 _ _ _ _)
   | (with_reducible exact ih1 _ _ _ _ _)
   | (with_reducible exact ih2 _ _ _ _ _)
   | (with_reducible exact ih3 _ _ _ _ _)
   | (with_reducible exact LeO.refl _)
   | (with_reducible exact LeO.none _)
   | (with_reducible refine LeO.ite ?_ ?_)
   | (with_reducible refine LeO.bind ?_ (fun _ => ?_))
  ·intro y0 y1 y2 y3 y4
   unfold spec_TermOk.j1
   repeat' first
   | (with_reducible exact ih0 _ _ _ _)
   | (with_reducible exact ih1 _ _ _ _ _)
   | (with_reducible exact ih2 _ _ _ _ _)
   | (with_reducible exact ih3 _ _ _ _ _)
   | (with_reducible exact LeO.refl _)
   | (with_reducible exact LeO.none _)
   | (with_reducible refine LeO.ite ?_ ?_)
   | (with_reducible refine LeO.bind ?_ (fun _ => ?_))
  ·intro y0 y1 y2 y3 y4
   unfold spec_TermOk.j2
   repeat' first
   | (with_reducible exact ih0 _ _ _ _)
   | (with_reducible exact ih1 _ _ _ _ _)
   | (with_reducible exact ih2 _ _ _ _ _)
   | (with_reducible exact ih3 _ _ _ _ _)
   | (with_reducible exact LeO.refl _)
   | (with_reducible exact LeO.none _)
   | (with_reducible refine LeO.ite ?_ ?_)
   | (with_reducible refine LeO.bind ?_ (fun _ => ?_))
  ·intro y0 y1 y2 y3 y4
   unfold spec_TermOk.j3
   repeat' first
   | (with_reducible exact ih0 _ _ _ _)
   | (with_reducible exact ih1 _ _ _ _ _)
   | (with_reducible exact ih2 _ _ _ _ _)
   | (with_reducible exact ih3 _ _ _ _ _)
   | (with_reducible exact LeO.refl _)
   | (with_reducible exact LeO.none _)
   | (with_reducible refine LeO.ite ?_ ?_)
   | (with_reducible refine LeO.bind ?_ (fun _ => ?_))
theorem spec_TermOk.mono : ∀ a0 a1 k, LeO (spec_TermOk.f k a0 a1) (spec_TermOk.f (k + 1) a0 a1) := by
 intro a0 a1 k
 obtain ⟨ih0, ih1, ih2, ih3⟩ := spec_TermOk.mono_l k
 unfold spec_TermOk.f
 repeat' first
   | (with_reducible exact ih0 _ _ _ _)
   | (with_reducible exact ih1 _ _ _ _ _)
   | (with_reducible exact ih2 _ _ _ _ _)
   | (with_reducible exact ih3 _ _ _ _ _)
   | (with_reducible exact LeO.refl _)
   | (with_reducible exact LeO.none _)
   | (with_reducible refine LeO.ite ?_ ?_)
   | (with_reducible refine LeO.bind ?_ (fun _ => ?_))
set_option maxHeartbeats 8000000 in
set_option maxRecDepth 100000 in
theorem spec_TermOk.calls (k : Nat) (a0 : Int) (A1 : Option Addr) (c1 : Nat) (l1 : List (S82)) (r : Bool) (w : World) (hr1 : Kd.C k82 w A1 l1.length l1) (hc1 : l1.length ≤ c1) (h : spec_TermOk.f k a0 l1 = some r) :
  Calls Tryd.prog 58 #[.int .i64 a0, .slice A1 l1.length c1] w fun e w' => e = .returned (.bool r) ∧ Drawn0 w w' := by
 have hu82 := Tryd.underlying82
 have HR1 := mk_ hr1
 have HC1 := mk_ hc1
 clear hr1 hc1
 have H : (spec_TermOk.l0 k a0 l1 0 0) = some r := h
 clear h
 have H' := mk_ H
 clear H
 go_enter Tryd.func58, Tryd.ntmps58
 go_wp2
 go_loopg [5, 6] k (fun kq v5 v6 w' => ∃ (x5_1 : Int) (x6_1 : Int), v5 = .int .i64 x5_1 ∧ v6 = .int .i64 x6_1 ∧ Aside0 (spec_TermOk.l0 kq a0 l1 x5_1 x6_1 = some r) ∧ Aside0 (kq ≤ k) ∧ Drawn0 w w')
 case atStart => exact ⟨(0), (0), (by first | rfl | (simp; done) | (simp [*]; done)), (by first | rfl | (simp; done) | (simp [*]; done)), H', ⟨Nat.le_refl _⟩, by repeat (first | exact Drawn0.refl _ | apply Drawn0.step)⟩
 clear H'
 try clear c1
 try clear p2
 obtain ⟨x5_1, x6_1, rfl, rfl, HA, HK1, ⟨m1, rfl⟩⟩ := hrel
 cases gk with
 | zero => exact absurd HA.out (by simp [spec_TermOk.l0])
 | succ k1 =>
  have H := HA.out
  clear HA
  simp only [spec_TermOk.l0] at H
  by_cases c3 : x6_1 < (l1.length : Int)
  rotate_left
  ·rw [if_neg c3] at H
   have c3b0 : decide (x6_1 < (l1.length : Int)) = false := decide_eq_false c3
   clear c3
   replace H := Option.bind_eq_some_iff.mp H
   obtain ⟨t172, A270, H⟩ := H
   try dsimp only at H
   have A27 := mk_ A270
   clear A270
   by_cases c28 : t172 = true
   rotate_left
   ·replace c28 := Bool.eq_false_iff.mpr c28
    subst c28
    rw [if_neg (show ¬ (false = true) by decide)] at H
    obtain rfl := Option.some.inj H
    go_wp2_with (first | ((with_reducible refine gate_callee (f := 80) rfl ?_); refine goesL_ (some 108) rfl rfl Tryd.func80 (by kernel_rfl) rfl #[.int .i64 a0, .int .i64 1, .int .i64 4] rfl gl_ ?_; (with_reducible refine (spec_l1In.calls a0 1 4 false _ A27.out).mono ?_); rintro e w' ⟨rfl, ⟨nd, rfl⟩⟩; refine ⟨_, rfl, ?_⟩))
    go_ret
    exact ⟨by first | rfl | (simp; done) | (simp [*]; done), by repeat (first | exact Drawn0.refl _ | apply Drawn0.step)⟩
   subst c28
   rw [if_pos rfl] at H
   by_cases c29 : x5_1 = 1
   ·rw [if_pos c29] at H
    have c29b0 : (x5_1 == 1) = true := beq_iff_eq.mpr c29
    have c29b1 : (x5_1 != 1) = false := bne_eq_false_iff_eq.mpr c29
    clear c29
    obtain rfl := Option.some.inj H
    go_wp2_with (first | ((with_reducible refine gate_callee (f := 80) rfl ?_); refine goesL_ (some 108) rfl rfl Tryd.func80 (by kernel_rfl) rfl #[.int .i64 a0, .int .i64 1, .int .i64 4] rfl gl_ ?_; (with_reducible refine (spec_l1In.calls a0 1 4 true _ A27.out).mono ?_); rintro e w' ⟨rfl, ⟨nd, rfl⟩⟩; refine ⟨_, rfl, ?_⟩))
    go_ret
    exact ⟨by first | rfl | (simp; done) | (simp [*]; done), by repeat (first | exact Drawn0.refl _ | apply Drawn0.step)⟩
   rw [if_neg c29] at H
   have c29b0 : (x5_1 == 1) = false := beq_eq_false_iff_ne.mpr c29
   have c29b1 : (x5_1 != 1) = true := bne_iff_ne.mpr c29
   obtain rfl := Option.some.inj H
   go_wp2_with (first | ((with_reducible refine gate_callee (f := 80) rfl ?_); refine goesL_ (some 108) rfl rfl Tryd.func80 (by kernel_rfl) rfl #[.int .i64 a0, .int .i64 1, .int .i64 4] rfl gl_ ?_; (with_reducible refine (spec_l1In.calls a0 1 4 true _ A27.out).mono ?_); rintro e w' ⟨rfl, ⟨nd, rfl⟩⟩; refine ⟨_, rfl, ?_⟩))
   go_ret
   exact ⟨by first | rfl | (simp; done) | (simp [*]; done), by repeat (first | exact Drawn0.refl _ | apply Drawn0.step)⟩
  rw [if_pos c3] at H
  have c3b0 : decide (x6_1 < (l1.length : Int)) = true := decide_eq_true c3
  clear c3
  have HC4 := mk_ H
  clear H
  go_upto_region 6 with (fail)
  go_cut [13] (fun v13 wc => ∃ (kq : Nat) (x13_3 : Bool), v13 = .bool x13_3 ∧ Aside0 (spec_TermOk.j1 kq a0 l1 x5_1 x6_1 x13_3 = some r) ∧ Aside0 (kq ≤ k1) ∧ Drawn0 w wc)
  case first =>
   have H := HC4.out
   clear HC4
   by_cases c5 : 0 ≤ x6_1
   rotate_left
   ·rw [if_neg c5] at H
    exact absurd H (by simp)
   rw [if_pos c5] at H
   have c5b0 : decide (0 ≤ x6_1) = true := decide_eq_true c5
   clear c5
   (first | rw [c5b0] | (simp only [i64_w, i32_w]; rw [c5b0]) | skip)
   by_cases c6 : ((rd_T82 l1 x6_1).f0) = 0
   rotate_left
   ·rw [if_neg c6] at H
    have c6b0 : (((rd_T82 l1 x6_1).f0) == 0) = false := beq_eq_false_iff_ne.mpr c6
    have c6b1 : (((rd_T82 l1 x6_1).f0) != 0) = true := bne_iff_ne.mpr c6
    have H' := mk_ H
    clear H
    have p173 : 0 ≤ (x6_1 : Int) := oa_
    have q173 : x6_1 < (l1.length : Int) := oa_
    obtain ⟨ad173, e173, hx173_0, hx173_1⟩ := at_T82 HR1.out x6_1 p173 q173
    cases e173
    replace p173 := eq_true p173
    replace q173 := eq_true q173
    go_wp2
    go_meet
    case rel => exact ⟨_, (false), (by first | rfl | (simp; done) | (simp [*]; done)), H', ⟨by have := HK1.out; first | omega | exact Nat.le_refl _⟩, by repeat (first | exact Drawn0.refl _ | apply Drawn0.step)⟩
   rw [if_pos c6] at H
   have c6b0 : (((rd_T82 l1 x6_1).f0) == 0) = true := beq_iff_eq.mpr c6
   have c6b1 : (((rd_T82 l1 x6_1).f0) != 0) = false := bne_eq_false_iff_eq.mpr c6
   clear c6
   by_cases c7 : ((rd_T82 l1 x6_1).f1) ≥ 0
   rotate_left
   ·rw [if_neg c7] at H
    have c7b0 : decide (0 ≤ ((rd_T82 l1 x6_1).f1)) = false := decide_eq_false c7
    clear c7
    have H' := mk_ H
    clear H
    have p173 : 0 ≤ (x6_1 : Int) := oa_
    have q173 : x6_1 < (l1.length : Int) := oa_
    obtain ⟨ad173, e173, hx173_0, hx173_1⟩ := at_T82 HR1.out x6_1 p173 q173
    cases e173
    replace p173 := eq_true p173
    replace q173 := eq_true q173
    have p174 : 0 ≤ (x6_1 : Int) := oa_
    have q174 : x6_1 < (l1.length : Int) := oa_
    obtain ⟨ad174, e174, hx174_0, hx174_1⟩ := at_T82 HR1.out x6_1 p174 q174
    obtain rfl : ad173 = ad174 := (by injection e174)
    replace p174 := eq_true p174
    replace q174 := eq_true q174
    go_wp2
    go_meet
    case rel => exact ⟨_, (false), (by first | rfl | (simp; done) | (simp [*]; done)), H', ⟨by have := HK1.out; first | omega | exact Nat.le_refl _⟩, by repeat (first | exact Drawn0.refl _ | apply Drawn0.step)⟩
   rw [if_pos c7] at H
   have c7b0 : decide (0 ≤ ((rd_T82 l1 x6_1).f1)) = true := decide_eq_true c7
   clear c7
   have H' := mk_ H
   clear H
   have p173 : 0 ≤ (x6_1 : Int) := oa_
   have q173 : x6_1 < (l1.length : Int) := oa_
   obtain ⟨ad173, e173, hx173_0, hx173_1⟩ := at_T82 HR1.out x6_1 p173 q173
   cases e173
   replace p173 := eq_true p173
   replace q173 := eq_true q173
   have p174 : 0 ≤ (x6_1 : Int) := oa_
   have q174 : x6_1 < (l1.length : Int) := oa_
   obtain ⟨ad174, e174, hx174_0, hx174_1⟩ := at_T82 HR1.out x6_1 p174 q174
   obtain rfl : ad173 = ad174 := (by injection e174)
   replace p174 := eq_true p174
   replace q174 := eq_true q174
   have p175 : 0 ≤ (x6_1 : Int) := oa_
   have q175 : x6_1 < (l1.length : Int) := oa_
   obtain ⟨ad175, e175, hx175_0, hx175_1⟩ := at_T82 HR1.out x6_1 p175 q175
   obtain rfl : ad173 = ad175 := (by injection e175)
   replace p175 := eq_true p175
   replace q175 := eq_true q175
   go_wp2
   go_meet
   case rel => exact ⟨_, (decide (((rd_T82 l1 x6_1).f1) < a0)), (by first | rfl | (simp; done) | (simp [*]; done)), H', ⟨by have := HK1.out; first | omega | exact Nat.le_refl _⟩, by repeat (first | exact Drawn0.refl _ | apply Drawn0.step)⟩
  clear HC4
  try clear c1
  try clear p1
  try clear q1
  try clear hx1
  try clear p2
  try clear c3
  try clear c3b0
  try clear c5
  try clear c5b0
  try clear c6
  try clear c6b0
  try clear c6b1
  try clear c7
  try clear c7b0
  try clear hx173_0
  try clear hx173_1
  try clear hx174_0
  try clear hx174_1
  try clear hx175_0
  try clear hx175_1
  try clear p173
  try clear p174
  try clear p175
  try clear p2
  try clear q173
  try clear q174
  try clear q175
  obtain ⟨kq, x13_3, rfl, HA, HJ3, ⟨mc3, rfl⟩⟩ := hcut
  cases kq with
  | zero => exact absurd HA.out (by simp [spec_TermOk.j1])
  | succ kj3 =>
   have H := HA.out
   clear HA
   simp only [spec_TermOk.j1] at H
   by_cases c8 : x13_3 = true
   ·subst c8
    rw [if_pos rfl] at H
    have H' := mk_ H
    clear H
    go_wp2
    go_roundg kj3
    case measure => have := HK1.out; have := HJ3.out; omega
    case rel => exact ⟨(wrap64 (x5_1 + 1)), (wrap64 (x6_1 + 1)), (by first | rfl | (simp; done) | (simp [*]; done)), (by first | rfl | (simp; done) | (simp [*]; done)), H', ⟨by have := HK1.out; have := HJ3.out; omega⟩, by repeat (first | exact Drawn0.refl _ | apply Drawn0.step)⟩
   replace c8 := Bool.eq_false_iff.mpr c8
   subst c8
   rw [if_neg (show ¬ (false = true) by decide)] at H
   have HC9 := mk_ H
   clear H
   go_upto_region 8 with (fail)
   go_cut [39] (fun v39 wc => ∃ (kq : Nat) (x39_8 : Bool), v39 = .bool x39_8 ∧ Aside0 (spec_TermOk.j2 kq a0 l1 x5_1 x6_1 x39_8 = some r) ∧ Aside0 (kq ≤ kj3) ∧ Drawn0 w wc)
   case first =>
    have H := HC9.out
    clear HC9
    by_cases c10 : 0 ≤ x6_1
    rotate_left
    ·rw [if_neg c10] at H
     exact absurd H (by simp)
    rw [if_pos c10] at H
    have c10b0 : decide (0 ≤ x6_1) = true := decide_eq_true c10
    clear c10
    (first | rw [c10b0] | (simp only [i64_w, i32_w]; rw [c10b0]) | skip)
    by_cases c11 : x6_1 < (l1.length : Int)
    rotate_left
    ·rw [if_neg c11] at H
     exact absurd H (by simp)
    rw [if_pos c11] at H
    have c11b0 : decide (x6_1 < (l1.length : Int)) = true := decide_eq_true c11
    clear c11
    by_cases c12 : ((rd_T82 l1 x6_1).f0) = 1
    rotate_left
    ·rw [if_neg c12] at H
     have c12b0 : (((rd_T82 l1 x6_1).f0) == 1) = false := beq_eq_false_iff_ne.mpr c12
     have c12b1 : (((rd_T82 l1 x6_1).f0) != 1) = true := bne_iff_ne.mpr c12
     have H' := mk_ H
     clear H
     have p176 : 0 ≤ (x6_1 : Int) := oa_
     have q176 : x6_1 < (l1.length : Int) := oa_
     obtain ⟨ad176, e176, hx176_0, hx176_1⟩ := at_T82 HR1.out x6_1 p176 q176
     cases e176
     replace p176 := eq_true p176
     replace q176 := eq_true q176
     go_wp2
     go_meet
     case rel => exact ⟨_, (false), (by first | rfl | (simp; done) | (simp [*]; done)), H', ⟨by have := HK1.out; have := HJ3.out; first | omega | exact Nat.le_refl _⟩, by repeat (first | exact Drawn0.refl _ | apply Drawn0.step)⟩
    rw [if_pos c12] at H
    have c12b0 : (((rd_T82 l1 x6_1).f0) == 1) = true := beq_iff_eq.mpr c12
    have c12b1 : (((rd_T82 l1 x6_1).f0) != 1) = false := bne_eq_false_iff_eq.mpr c12
    clear c12
    by_cases c13 : ((rd_T82 l1 x6_1).f1) ≥ 0
    rotate_left
    ·rw [if_neg c13] at H
     have c13b0 : decide (0 ≤ ((rd_T82 l1 x6_1).f1)) = false := decide_eq_false c13
     clear c13
     have H' := mk_ H
     clear H
     have p176 : 0 ≤ (x6_1 : Int) := oa_
     have q176 : x6_1 < (l1.length : Int) := oa_
     obtain ⟨ad176, e176, hx176_0, hx176_1⟩ := at_T82 HR1.out x6_1 p176 q176
     cases e176
     replace p176 := eq_true p176
     replace q176 := eq_true q176
     have p177 : 0 ≤ (x6_1 : Int) := oa_
     have q177 : x6_1 < (l1.length : Int) := oa_
     obtain ⟨ad177, e177, hx177_0, hx177_1⟩ := at_T82 HR1.out x6_1 p177 q177
     obtain rfl : ad176 = ad177 := (by injection e177)
     replace p177 := eq_true p177
     replace q177 := eq_true q177
     go_wp2
     go_meet
     case rel => exact ⟨_, (false), (by first | rfl | (simp; done) | (simp [*]; done)), H', ⟨by have := HK1.out; have := HJ3.out; first | omega | exact Nat.le_refl _⟩, by repeat (first | exact Drawn0.refl _ | apply Drawn0.step)⟩
    rw [if_pos c13] at H
    have c13b0 : decide (0 ≤ ((rd_T82 l1 x6_1).f1)) = true := decide_eq_true c13
    clear c13
    by_cases c14 : ((rd_T82 l1 x6_1).f1) ≤ a0
    ·rw [if_pos c14] at H
     have c14b0 : decide (((rd_T82 l1 x6_1).f1) ≤ a0) = true := decide_eq_true c14
     clear c14
     have H' := mk_ H
     clear H
     have p176 : 0 ≤ (x6_1 : Int) := oa_
     have q176 : x6_1 < (l1.length : Int) := oa_
     obtain ⟨ad176, e176, hx176_0, hx176_1⟩ := at_T82 HR1.out x6_1 p176 q176
     cases e176
     replace p176 := eq_true p176
     replace q176 := eq_true q176
     have p177 : 0 ≤ (x6_1 : Int) := oa_
     have q177 : x6_1 < (l1.length : Int) := oa_
     obtain ⟨ad177, e177, hx177_0, hx177_1⟩ := at_T82 HR1.out x6_1 p177 q177
     obtain rfl : ad176 = ad177 := (by injection e177)
     replace p177 := eq_true p177
     replace q177 := eq_true q177
     have p178 : 0 ≤ (x6_1 : Int) := oa_
     have q178 : x6_1 < (l1.length : Int) := oa_
     obtain ⟨ad178, e178, hx178_0, hx178_1⟩ := at_T82 HR1.out x6_1 p178 q178
     obtain rfl : ad176 = ad178 := (by injection e178)
     replace p178 := eq_true p178
     replace q178 := eq_true q178
     go_wp2
     go_meet
     case rel => exact ⟨_, (true), (by first | rfl | (simp; done) | (simp [*]; done)), H', ⟨by have := HK1.out; have := HJ3.out; first | omega | exact Nat.le_refl _⟩, by repeat (first | exact Drawn0.refl _ | apply Drawn0.step)⟩
    rw [if_neg c14] at H
    have c14b0 : decide (((rd_T82 l1 x6_1).f1) ≤ a0) = false := decide_eq_false c14
    clear c14
    have H' := mk_ H
    clear H
    have p176 : 0 ≤ (x6_1 : Int) := oa_
    have q176 : x6_1 < (l1.length : Int) := oa_
    obtain ⟨ad176, e176, hx176_0, hx176_1⟩ := at_T82 HR1.out x6_1 p176 q176
    cases e176
    replace p176 := eq_true p176
    replace q176 := eq_true q176
    have p177 : 0 ≤ (x6_1 : Int) := oa_
    have q177 : x6_1 < (l1.length : Int) := oa_
    obtain ⟨ad177, e177, hx177_0, hx177_1⟩ := at_T82 HR1.out x6_1 p177 q177
    obtain rfl : ad176 = ad177 := (by injection e177)
    replace p177 := eq_true p177
    replace q177 := eq_true q177
    have p178 : 0 ≤ (x6_1 : Int) := oa_
    have q178 : x6_1 < (l1.length : Int) := oa_
    obtain ⟨ad178, e178, hx178_0, hx178_1⟩ := at_T82 HR1.out x6_1 p178 q178
    obtain rfl : ad176 = ad178 := (by injection e178)
    replace p178 := eq_true p178
    replace q178 := eq_true q178
    have p179 : 0 ≤ (x6_1 : Int) := oa_
    have q179 : x6_1 < (l1.length : Int) := oa_
    obtain ⟨ad179, e179, hx179_0, hx179_1⟩ := at_T82 HR1.out x6_1 p179 q179
    obtain rfl : ad176 = ad179 := (by injection e179)
    replace p179 := eq_true p179
    replace q179 := eq_true q179
    go_wp2
    go_meet
    case rel => exact ⟨_, (((wrap64 (((rd_T82 l1 x6_1).f1) - 1)) == a0)), (by first | rfl | (simp; done) | (simp [*]; done)), H', ⟨by have := HK1.out; have := HJ3.out; first | omega | exact Nat.le_refl _⟩, by repeat (first | exact Drawn0.refl _ | apply Drawn0.step)⟩
   clear HC9
   try clear c1
   try clear p1
   try clear q1
   try clear hx1
   try clear p2
   try clear c3
   try clear c3b0
   try clear c5
   try clear c5b0
   try clear c6
   try clear c6b0
   try clear c6b1
   try clear p6
   try clear c7
   try clear c7b0
   try clear c8
   try clear c10
   try clear c10b0
   try clear c11
   try clear c11b0
   try clear c12
   try clear c12b0
   try clear c12b1
   try clear c13
   try clear c13b0
   try clear c14
   try clear c14b0
   try clear hx173_0
   try clear hx173_1
   try clear hx174_0
   try clear hx174_1
   try clear hx175_0
   try clear hx175_1
   try clear hx176_0
   try clear hx176_1
   try clear hx177_0
   try clear hx177_1
   try clear hx178_0
   try clear hx178_1
   try clear hx179_0
   try clear hx179_1
   try clear p1
   try clear p173
   try clear p174
   try clear p175
   try clear p176
   try clear p177
   try clear p178
   try clear p179
   try clear p2
   try clear q1
   try clear q173
   try clear q174
   try clear q175
   try clear q176
   try clear q177
   try clear q178
   try clear q179
   obtain ⟨kq, x39_8, rfl, HA, HJ8, ⟨mc8, rfl⟩⟩ := hcut
   cases kq with
   | zero => exact absurd HA.out (by simp [spec_TermOk.j2])
   | succ kj8 =>
    have H := HA.out
    clear HA
    simp only [spec_TermOk.j2] at H
    by_cases c15 : x39_8 = true
    ·subst c15
     rw [if_pos rfl] at H
     have H' := mk_ H
     clear H
     go_wp2
     go_roundg kj8
     case measure => have := HK1.out; have := HJ3.out; have := HJ8.out; omega
     case rel => exact ⟨(wrap64 (x5_1 + 1)), (wrap64 (x6_1 + 1)), (by first | rfl | (simp; done) | (simp [*]; done)), (by first | rfl | (simp; done) | (simp [*]; done)), H', ⟨by have := HK1.out; have := HJ3.out; have := HJ8.out; omega⟩, by repeat (first | exact Drawn0.refl _ | apply Drawn0.step)⟩
    replace c15 := Bool.eq_false_iff.mpr c15
    subst c15
    rw [if_neg (show ¬ (false = true) by decide)] at H
    have HC16 := mk_ H
    clear H
    go_upto_region 10 with (fail)
    go_cut [75] (fun v75 wc => ∃ (kq : Nat) (x75_15 : Bool), v75 = .bool x75_15 ∧ Aside0 (spec_TermOk.j3 kq a0 l1 x5_1 x6_1 x75_15 = some r) ∧ Aside0 (kq ≤ kj8) ∧ Drawn0 w wc)
    case first =>
     have H := HC16.out
     clear HC16
     by_cases c17 : 0 ≤ x6_1
     rotate_left
     ·rw [if_neg c17] at H
      exact absurd H (by simp)
     rw [if_pos c17] at H
     have c17b0 : decide (0 ≤ x6_1) = true := decide_eq_true c17
     clear c17
     (first | rw [c17b0] | (simp only [i64_w, i32_w]; rw [c17b0]) | skip)
     by_cases c18 : x6_1 < (l1.length : Int)
     rotate_left
     ·rw [if_neg c18] at H
      exact absurd H (by simp)
     rw [if_pos c18] at H
     have c18b0 : decide (x6_1 < (l1.length : Int)) = true := decide_eq_true c18
     clear c18
     by_cases c19 : (((rd_T82 l1 x6_1).f0) == 2 && (((rd_T82 l1 x6_1).f1) == 0)) = true
     ·rw [if_pos c19] at H
      have c19b0 : (((rd_T82 l1 x6_1).f0) == 2 && (((rd_T82 l1 x6_1).f1) == 0)) = true := c19
      (try (have c19b1 : decide (((rd_T82 l1 x6_1).f0) = 2 && (((rd_T82 l1 x6_1).f1) == 0)) = true := by simpa using c19))
      (try (have c19b2 : (((rd_T82 l1 x6_1).f0) == 2 && (((rd_T82 l1 x6_1).f1) == 0)) = true := by simpa using c19))
      clear c19
      have H' := mk_ H
      clear H
      have p180 : 0 ≤ (x6_1 : Int) := oa_
      have q180 : x6_1 < (l1.length : Int) := oa_
      obtain ⟨ad180, e180, hx180_0, hx180_1⟩ := at_T82 HR1.out x6_1 p180 q180
      cases e180
      replace p180 := eq_true p180
      replace q180 := eq_true q180
      go_wp2
      go_meet
      case rel => exact ⟨_, (decide (x5_1 ≥ 1)), (by first | rfl | (simp; done) | (simp [*]; done)), H', ⟨by have := HK1.out; have := HJ3.out; have := HJ8.out; first | omega | exact Nat.le_refl _⟩, by repeat (first | exact Drawn0.refl _ | apply Drawn0.step)⟩
     rw [if_neg c19] at H
     have c19b0 : (((rd_T82 l1 x6_1).f0) == 2 && (((rd_T82 l1 x6_1).f1) == 0)) = false := by simpa using c19
     (try (have c19b1 : decide (((rd_T82 l1 x6_1).f0) = 2 && (((rd_T82 l1 x6_1).f1) == 0)) = false := by simpa using c19))
     (try (have c19b2 : (((rd_T82 l1 x6_1).f0) == 2 && (((rd_T82 l1 x6_1).f1) == 0)) = false := by simpa using c19))
     (try (have c19b3 : ¬ (((rd_T82 l1 x6_1).f0) = 2 && (((rd_T82 l1 x6_1).f1) == 0)) := by simpa using c19))
     clear c19
     have H' := mk_ H
     clear H
     have p180 : 0 ≤ (x6_1 : Int) := oa_
     have q180 : x6_1 < (l1.length : Int) := oa_
     obtain ⟨ad180, e180, hx180_0, hx180_1⟩ := at_T82 HR1.out x6_1 p180 q180
     cases e180
     replace p180 := eq_true p180
     replace q180 := eq_true q180
     go_wp2
     go_meet
     case rel => exact ⟨_, (false), (by first | rfl | (simp; done) | (simp [*]; done)), H', ⟨by have := HK1.out; have := HJ3.out; have := HJ8.out; first | omega | exact Nat.le_refl _⟩, by repeat (first | exact Drawn0.refl _ | apply Drawn0.step)⟩
    clear HC16
    try clear c1
    try clear p1
    try clear q1
    try clear hx1
    try clear p2
    try clear c3
    try clear c3b0
    try clear c5
    try clear c5b0
    try clear c6
    try clear c6b0
    try clear c6b1
    try clear p6
    try clear c7
    try clear c7b0
    try clear c8
    try clear c10
    try clear c10b0
    try clear c11
    try clear c11b0
    try clear c12
    try clear c12b0
    try clear c12b1
    try clear c13
    try clear c13b0
    try clear c14
    try clear c14b0
    try clear c15
    try clear c17
    try clear c17b0
    try clear p17
    try clear q17
    try clear hx17
    try clear c18
    try clear c18b0
    try clear p18
    try clear q18
    try clear hx18
    try clear c19
    try clear c19b0
    try clear c19b1
    try clear c19b2
    try clear hx173_0
    try clear hx173_1
    try clear hx174_0
    try clear hx174_1
    try clear hx175_0
    try clear hx175_1
    try clear hx176_0
    try clear hx176_1
    try clear hx177_0
    try clear hx177_1
    try clear hx178_0
    try clear hx178_1
    try clear hx179_0
    try clear hx179_1
    try clear hx180_0
    try clear hx180_1
    try clear p1
    try clear p173
    try clear p174
    try clear p175
    try clear p176
    try clear p177
    try clear p178
    try clear p179
    try clear p180
    try clear p2
    try clear p6
    try clear q1
    try clear q173
    try clear q174
    try clear q175
    try clear q176
    try clear q177
    try clear q178
    try clear q179
    try clear q180
    obtain ⟨kq, x75_15, rfl, HA, HJ15, ⟨mc15, rfl⟩⟩ := hcut
    cases kq with
    | zero => exact absurd HA.out (by simp [spec_TermOk.j3])
    | succ kj15 =>
     have H := HA.out
     clear HA
     simp only [spec_TermOk.j3] at H
     by_cases c20 : x75_15 = true
     ·subst c20
      rw [if_pos rfl] at H
      have H' := mk_ H
      clear H
      go_wp2
      go_roundg kj15
      case measure => have := HK1.out; have := HJ3.out; have := HJ8.out; have := HJ15.out; omega
      case rel => exact ⟨(x5_1), (wrap64 (x6_1 + 1)), (by first | rfl | (simp; done) | (simp [*]; done)), (by first | rfl | (simp; done) | (simp [*]; done)), H', ⟨by have := HK1.out; have := HJ3.out; have := HJ8.out; have := HJ15.out; omega⟩, by repeat (first | exact Drawn0.refl _ | apply Drawn0.step)⟩
     replace c20 := Bool.eq_false_iff.mpr c20
     subst c20
     rw [if_neg (show ¬ (false = true) by decide)] at H
     by_cases c21 : 0 ≤ x6_1
     rotate_left
     ·rw [if_neg c21] at H
      exact absurd H (by simp)
     rw [if_pos c21] at H
     have c21b0 : decide (0 ≤ x6_1) = true := decide_eq_true c21
     clear c21
     by_cases c22 : x6_1 < (l1.length : Int)
     rotate_left
     ·rw [if_neg c22] at H
      exact absurd H (by simp)
     rw [if_pos c22] at H
     have c22b0 : decide (x6_1 < (l1.length : Int)) = true := decide_eq_true c22
     clear c22
     replace H := Option.bind_eq_some_iff.mp H
     obtain ⟨t182, A230, H⟩ := H
     try dsimp only at H
     have A23 := mk_ A230
     clear A230
     by_cases c24 : t182 = true
     rotate_left
     ·replace c24 := Bool.eq_false_iff.mpr c24
      subst c24
      rw [if_neg (show ¬ (false = true) by decide)] at H
      obtain rfl := Option.some.inj H
      have p181 : 0 ≤ (x6_1 : Int) := oa_
      have q181 : x6_1 < (l1.length : Int) := oa_
      obtain ⟨ad181, e181, hx181_0, hx181_1⟩ := at_T82 HR1.out x6_1 p181 q181
      cases e181
      replace p181 := eq_true p181
      replace q181 := eq_true q181
      go_wp2_with (first | ((with_reducible refine gate_callee (f := 80) rfl ?_); refine goesL_ (some 92) rfl rfl Tryd.func80 (by kernel_rfl) rfl #[.int .i64 ((rd_T82 l1 x6_1).f0), .int .i64 3, .int .i64 5] rfl gl_ ?_; (with_reducible refine (spec_l1In.calls ((rd_T82 l1 x6_1).f0) 3 5 false _ A23.out).mono ?_); rintro e w' ⟨rfl, ⟨nd, rfl⟩⟩; refine ⟨_, rfl, ?_⟩))
      go_ret
      exact ⟨by first | rfl | (simp; done) | (simp [*]; done), by repeat (first | exact Drawn0.refl _ | apply Drawn0.step)⟩
     subst c24
     rw [if_pos rfl] at H
     by_cases c25 : ((rd_T82 l1 x6_1).f1) = 0
     rotate_left
     ·rw [if_neg c25] at H
      have c25b0 : (((rd_T82 l1 x6_1).f1) == 0) = false := beq_eq_false_iff_ne.mpr c25
      have c25b1 : (((rd_T82 l1 x6_1).f1) != 0) = true := bne_iff_ne.mpr c25
      obtain rfl := Option.some.inj H
      have p181 : 0 ≤ (x6_1 : Int) := oa_
      have q181 : x6_1 < (l1.length : Int) := oa_
      obtain ⟨ad181, e181, hx181_0, hx181_1⟩ := at_T82 HR1.out x6_1 p181 q181
      cases e181
      replace p181 := eq_true p181
      replace q181 := eq_true q181
      go_wp2_with (first | ((with_reducible refine gate_callee (f := 80) rfl ?_); refine goesL_ (some 92) rfl rfl Tryd.func80 (by kernel_rfl) rfl #[.int .i64 ((rd_T82 l1 x6_1).f0), .int .i64 3, .int .i64 5] rfl gl_ ?_; (with_reducible refine (spec_l1In.calls ((rd_T82 l1 x6_1).f0) 3 5 true _ A23.out).mono ?_); rintro e w' ⟨rfl, ⟨nd, rfl⟩⟩; refine ⟨_, rfl, ?_⟩; have p183 : 0 ≤ (x6_1 : Int) := oa_; have q183 : x6_1 < (l1.length : Int) := oa_; obtain ⟨ad183, e183, hx183_0, hx183_1⟩ := at_T82 HR1.out x6_1 p183 q183; obtain rfl : ad181 = ad183 := (by injection e183); replace p183 := eq_true p183; replace q183 := eq_true q183))
      go_ret
      exact ⟨by first | rfl | (simp; done) | (simp [*]; done), by repeat (first | exact Drawn0.refl _ | apply Drawn0.step)⟩
     rw [if_pos c25] at H
     have c25b0 : (((rd_T82 l1 x6_1).f1) == 0) = true := beq_iff_eq.mpr c25
     have c25b1 : (((rd_T82 l1 x6_1).f1) != 0) = false := bne_eq_false_iff_eq.mpr c25
     clear c25
     by_cases c26 : x5_1 ≥ 2
     rotate_left
     ·rw [if_neg c26] at H
      have c26b0 : decide (2 ≤ x5_1) = false := decide_eq_false c26
      clear c26
      obtain rfl := Option.some.inj H
      have p181 : 0 ≤ (x6_1 : Int) := oa_
      have q181 : x6_1 < (l1.length : Int) := oa_
      obtain ⟨ad181, e181, hx181_0, hx181_1⟩ := at_T82 HR1.out x6_1 p181 q181
      cases e181
      replace p181 := eq_true p181
      replace q181 := eq_true q181
      go_wp2_with (first | ((with_reducible refine gate_callee (f := 80) rfl ?_); refine goesL_ (some 92) rfl rfl Tryd.func80 (by kernel_rfl) rfl #[.int .i64 ((rd_T82 l1 x6_1).f0), .int .i64 3, .int .i64 5] rfl gl_ ?_; (with_reducible refine (spec_l1In.calls ((rd_T82 l1 x6_1).f0) 3 5 true _ A23.out).mono ?_); rintro e w' ⟨rfl, ⟨nd, rfl⟩⟩; refine ⟨_, rfl, ?_⟩; have p183 : 0 ≤ (x6_1 : Int) := oa_; have q183 : x6_1 < (l1.length : Int) := oa_; obtain ⟨ad183, e183, hx183_0, hx183_1⟩ := at_T82 HR1.out x6_1 p183 q183; obtain rfl : ad181 = ad183 := (by injection e183); replace p183 := eq_true p183; replace q183 := eq_true q183))
      go_ret
      exact ⟨by first | rfl | (simp; done) | (simp [*]; done), by repeat (first | exact Drawn0.refl _ | apply Drawn0.step)⟩
     rw [if_pos c26] at H
     have c26b0 : decide (2 ≤ x5_1) = true := decide_eq_true c26
     clear c26
     have H' := mk_ H
     clear H
     have p181 : 0 ≤ (x6_1 : Int) := oa_
     have q181 : x6_1 < (l1.length : Int) := oa_
     obtain ⟨ad181, e181, hx181_0, hx181_1⟩ := at_T82 HR1.out x6_1 p181 q181
     cases e181
     replace p181 := eq_true p181
     replace q181 := eq_true q181
     go_wp2_with (first | ((with_reducible refine gate_callee (f := 80) rfl ?_); refine goesL_ (some 92) rfl rfl Tryd.func80 (by kernel_rfl) rfl #[.int .i64 ((rd_T82 l1 x6_1).f0), .int .i64 3, .int .i64 5] rfl gl_ ?_; (with_reducible refine (spec_l1In.calls ((rd_T82 l1 x6_1).f0) 3 5 true _ A23.out).mono ?_); rintro e w' ⟨rfl, ⟨nd, rfl⟩⟩; refine ⟨_, rfl, ?_⟩; have p183 : 0 ≤ (x6_1 : Int) := oa_; have q183 : x6_1 < (l1.length : Int) := oa_; obtain ⟨ad183, e183, hx183_0, hx183_1⟩ := at_T82 HR1.out x6_1 p183 q183; obtain rfl : ad181 = ad183 := (by injection e183); replace p183 := eq_true p183; replace q183 := eq_true q183))
     go_roundg kj15
     case measure => have := HK1.out; have := HJ3.out; have := HJ8.out; have := HJ15.out; omega
     case rel => exact ⟨(wrap64 (x5_1 - 1)), (wrap64 (x6_1 + 1)), (by first | rfl | (simp; done) | (simp [*]; done)), (by first | rfl | (simp; done) | (simp [*]; done)), H', ⟨by have := HK1.out; have := HJ3.out; have := HJ8.out; have := HJ15.out; omega⟩, by repeat (first | exact Drawn0.refl _ | apply Drawn0.step)⟩

end Go.Proofs.YtcaogllnbpmcgaaDoor.P

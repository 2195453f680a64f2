/- Written by our program myprint.py out of Lean's print of the translation: Go's function comes to just the answer of the Lean function told here. -/
import Derived.Test.YtcaogllnbpmcgaaPx0
import Derived.Test.YtcaogllnbpmcgaaPx1
import Derived.Test.YtcaogllnbpmcgaaPx3
namespace Go.Proofs.Ytcaogllnbpmcgaa.P
open Go.RowKit Go.Proofs.YtcaogllnbpmcgaaW.PrintWords Go.Proofs.YtcaogllnbpmcgaaW.PrintLast Go.Proofs.YtcaogllnbpmcgaaW.PrintMore
attribute [local go_sem] max2_int min2_int max_two min_two max_three min_three max_four min_four   -- for this text's walks alone
set_option linter.unusedVariables false
set_option linter.unusedSimpArgs false

attribute [local go_sem high] eqA47
/-! ### laws_szProof: function 31 -/
def laws_szProof.f (a0_0 : Int) (l0_1 : List (S124)) (a1 : Int) : Option (Int) := (laws_szSplitS.f l0_1 a1).bind fun t142 => (if t142 < 0 then (some (-1)) else (some t142))
set_option maxHeartbeats 8000000 in
set_option maxRecDepth 100000 in
theorem laws_szProof.calls (a0_0 : Int) (A0_1 : Option Addr) (c0_1 : Nat) (l0_1 : List (S124)) (a1 : Int) (r : Int) (w : World) (hr0_1 : Kd.C k124 w A0_1 l0_1.length l0_1) (hc0_1 : l0_1.length ≤ c0_1) (h : laws_szProof.f a0_0 l0_1 a1 = some r) :
  Calls Try.prog 31 #[.agg #[.int .i64 a0_0, .slice A0_1 l0_1.length c0_1], .int .i64 a1] w fun e w' => e = .returned (.int .i64 r) ∧ Below w.heap.size w w' := by
 have hu57 := Try.underlying57
 have HR0_1 := Aside0.mk hr0_1
 have HC0_1 := Aside0.mk hc0_1
 clear hr0_1 hc0_1
 have HB := Aside0.mk (Below.refl w.heap.size w)
 have H : ((laws_szSplitS.f l0_1 a1).bind fun t142 => (if t142 < 0 then (some (-1)) else (some t142))) = some r := h
 clear h
 replace H := Option.bind_eq_some_iff.mp H
 obtain ⟨t142, A30, H⟩ := H
 try dsimp only at H
 have A3 := Aside0.mk A30
 clear A30
 by_cases c4 : t142 < 0
 ·rw [if_pos c4] at H
  have c4b0 : decide (t142 < 0) = true := decide_eq_true c4
  clear c4
  obtain rfl := Option.some.inj H
  go_enter Try.func31, Try.ntmps31
  go_wp2_with (first | ((with_reducible refine gate_dst (N := 2) rfl ?_); refine box_event ?hg (N := 2) ?hd (cs := #[.int .i64 a0_0, .slice A0_1 l0_1.length c0_1]) (t := 57) ?hr ?_; (case hd => rfl); (case hg => rfl); (case hr => first | (go_simp; done) | (go_simp; rfl)); intro gb141 hg w5 hbox hb; have n0_ := Aside0.mk (below_step (below_at HB.out) hb); have n1_ := Aside0.mk (hbox); have n2_ := Aside0.mk ((by rw [hg]; exact (below_size (below_at HB.out)) : w.heap.size ≤ gb141)); have n3_ := Aside0.mk ((by rw [hg]; exact (below_size (below_at HB.out)) : w.heap.size ≤ gb141)); clear HB; have HB := n0_; have BK141 := n1_; have GW141 := n2_; have GE141 := n3_; clear n0_ n1_ n2_ n3_; clear hb hbox hg; have hcz6_0 := blk_cell BK141.out 0; have hcz6_1 := blk_cell BK141.out 1; have hfz6_0 := blk_frozen BK141.out 0; have hfz6_1 := blk_frozen BK141.out 1) | ((with_reducible refine gate_callee (f := 68) rfl ?_); refine goesL_ (some 8) rfl rfl Try.func68 (by kernel_rfl) rfl #[.slice A0_1 l0_1.length c0_1, .int .i64 a1] rfl (by (try simp only [List.map_toArray, List.map_cons, List.map_nil]); first | done | rfl | (simp only [List.length_drop, List.length_take]; rfl)) ?_; (with_reducible refine (laws_szSplitS.calls _ _ l0_1 a1 t142 _ ?side1 ?side2 A3.out).mono ?_); (case side1 => exact Kd.C_below (Kd.C_below HR0_1.out HB.out) lt_); (case side2 => exact HC0_1.out); rintro e w' ⟨rfl, ⟨nd, rfl⟩⟩; refine ⟨_, rfl, ?_⟩))
  go_ret
  exact ⟨by first | rfl | (simp [errW_none, errW_some] <;> rfl) | (simp [*, errW_none, errW_some] <;> rfl), at_ HB.out⟩
 ·rw [if_neg c4] at H
  have c4b0 : decide (t142 < 0) = false := decide_eq_false c4
  clear c4
  obtain rfl := Option.some.inj H
  go_enter Try.func31, Try.ntmps31
  go_wp2_with (first | ((with_reducible refine gate_dst (N := 2) rfl ?_); refine box_event ?hg (N := 2) ?hd (cs := #[.int .i64 a0_0, .slice A0_1 l0_1.length c0_1]) (t := 57) ?hr ?_; (case hd => rfl); (case hg => rfl); (case hr => first | (go_simp; done) | (go_simp; rfl)); intro gb141 hg w7 hbox hb; have n0_ := Aside0.mk (below_step (below_at HB.out) hb); have n1_ := Aside0.mk (hbox); have n2_ := Aside0.mk ((by rw [hg]; exact (below_size (below_at HB.out)) : w.heap.size ≤ gb141)); have n3_ := Aside0.mk ((by rw [hg]; exact (below_size (below_at HB.out)) : w.heap.size ≤ gb141)); clear HB; have HB := n0_; have BK141 := n1_; have GW141 := n2_; have GE141 := n3_; clear n0_ n1_ n2_ n3_; clear hb hbox hg; have hcz8_0 := blk_cell BK141.out 0; have hcz8_1 := blk_cell BK141.out 1; have hfz8_0 := blk_frozen BK141.out 0; have hfz8_1 := blk_frozen BK141.out 1) | ((with_reducible refine gate_callee (f := 68) rfl ?_); refine goesL_ (some 8) rfl rfl Try.func68 (by kernel_rfl) rfl #[.slice A0_1 l0_1.length c0_1, .int .i64 a1] rfl (by (try simp only [List.map_toArray, List.map_cons, List.map_nil]); first | done | rfl | (simp only [List.length_drop, List.length_take]; rfl)) ?_; (with_reducible refine (laws_szSplitS.calls _ _ l0_1 a1 t142 _ ?side1 ?side2 A3.out).mono ?_); (case side1 => exact Kd.C_below (Kd.C_below HR0_1.out HB.out) lt_); (case side2 => exact HC0_1.out); rintro e w' ⟨rfl, ⟨nd, rfl⟩⟩; refine ⟨_, rfl, ?_⟩))
  go_ret
  exact ⟨by first | rfl | (simp [errW_none, errW_some] <;> rfl) | (simp [*, errW_none, errW_some] <;> rfl), at_ HB.out⟩

/-! ### spec_l1In: function 47 -/
def spec_l1In.f (a0 : Int) (a1 : Int) (a2 : Int) : Option (Bool) := if a0 ≥ a1 then (some (decide (a0 ≤ a2))) else (some false)
set_option maxHeartbeats 8000000 in
set_option maxRecDepth 100000 in
theorem spec_l1In.calls (a0 : Int) (a1 : Int) (a2 : Int) (r : Bool) (w : World) (h : spec_l1In.f a0 a1 a2 = some r) :
  Calls Try.prog 47 #[.int .i64 a0, .int .i64 a1, .int .i64 a2] w fun e w' => e = .returned (.bool r) ∧ Drawn0 w w' := by
 have H : (if a0 ≥ a1 then (some (decide (a0 ≤ a2))) else (some false)) = some r := h
 clear h
 by_cases c4 : a0 ≥ a1
 ·rw [if_pos c4] at H
  have c4b0 : decide (a1 ≤ a0) = true := decide_eq_true c4
  clear c4
  obtain rfl := Option.some.inj H
  go_enter Try.func47, Try.ntmps47
  go_wp2
  go_ret
  exact ⟨by first | rfl | (simp; done) | (simp [*]; done), by repeat (first | exact Drawn0.refl _ | apply Drawn0.step)⟩
 ·rw [if_neg c4] at H
  have c4b0 : decide (a1 ≤ a0) = false := decide_eq_false c4
  clear c4
  obtain rfl := Option.some.inj H
  go_enter Try.func47, Try.ntmps47
  go_wp2
  go_ret
  exact ⟨by first | rfl | (simp; done) | (simp [*]; done), by repeat (first | exact Drawn0.refl _ | apply Drawn0.step)⟩

/-! ### spec_TermOk: function 28 -/
mutual
def spec_TermOk.l0 : Nat → Int → List (S47) → Int → Int → Option (Bool)
 | 0, _, _, _, _ => none
 | k + 1, x0, x1, x5, x6 => if x6 < (x1.length : Int) then (if 0 ≤ x6 then (if ((rd_T47 x1 x6).f0) = 0 then (if ((rd_T47 x1 x6).f1) ≥ 0 then (spec_TermOk.j1 k x0 x1 x5 x6 (decide (((rd_T47 x1 x6).f1) < x0))) else (spec_TermOk.j1 k x0 x1 x5 x6 false)) else (spec_TermOk.j1 k x0 x1 x5 x6 false)) else (none)) else ((spec_l1In.f x0 1 4).bind fun t143 => (if t143 = true then (if x5 = 1 then (some (decide ((x1.length : Int) ≤ 15))) else (some false)) else (some false)))
def spec_TermOk.j1 : Nat → Int → List (S47) → Int → Int → Bool → Option (Bool)
 | 0, _, _, _, _, _ => none
 | k + 1, x0, x1, x5, x6, x13 => if x13 = true then (spec_TermOk.l0 k x0 x1 (wrap64 (x5 + 1)) (wrap64 (x6 + 1))) else (if 0 ≤ x6 then (if x6 < (x1.length : Int) then (if ((rd_T47 x1 x6).f0) = 1 then (if ((rd_T47 x1 x6).f1) ≥ 0 then (if ((rd_T47 x1 x6).f1) ≤ x0 then (spec_TermOk.j2 k x0 x1 x5 x6 true) else (spec_TermOk.j2 k x0 x1 x5 x6 ((wrap64 (((rd_T47 x1 x6).f1) - 1)) == x0))) else (spec_TermOk.j2 k x0 x1 x5 x6 false)) else (spec_TermOk.j2 k x0 x1 x5 x6 false)) else (none)) else (none))
def spec_TermOk.j2 : Nat → Int → List (S47) → Int → Int → Bool → Option (Bool)
 | 0, _, _, _, _, _ => none
 | k + 1, x0, x1, x5, x6, x39 => if x39 = true then (spec_TermOk.l0 k x0 x1 (wrap64 (x5 + 1)) (wrap64 (x6 + 1))) else (if 0 ≤ x6 then (if x6 < (x1.length : Int) then (if (((rd_T47 x1 x6).f0) == 2 && (((rd_T47 x1 x6).f1) == 0)) = true then (spec_TermOk.j3 k x0 x1 x5 x6 (decide (x5 ≥ 1))) else (spec_TermOk.j3 k x0 x1 x5 x6 false)) else (none)) else (none))
def spec_TermOk.j3 : Nat → Int → List (S47) → Int → Int → Bool → Option (Bool)
 | 0, _, _, _, _, _ => none
 | k + 1, x0, x1, x5, x6, x75 => if x75 = true then (spec_TermOk.l0 k x0 x1 x5 (wrap64 (x6 + 1))) else (if 0 ≤ x6 then (if x6 < (x1.length : Int) then ((spec_l1In.f ((rd_T47 x1 x6).f0) 3 5).bind fun t153 => (if t153 = true then (if ((rd_T47 x1 x6).f1) = 0 then (if x5 ≥ 2 then (spec_TermOk.l0 k x0 x1 (wrap64 (x5 - 1)) (wrap64 (x6 + 1))) else (some false)) else (some false)) else (some false))) else (none)) else (none))
end
def spec_TermOk.f (k : Nat) (a0 : Int) (l1 : List (S47)) : Option (Bool) := spec_TermOk.l0 k a0 l1 0 0
theorem spec_TermOk.mono_l : ∀ k, (∀ y0 y1 y2 y3, LeO (spec_TermOk.l0 k y0 y1 y2 y3) (spec_TermOk.l0 (k + 1) y0 y1 y2 y3)) ∧ (∀ y0 y1 y2 y3 y4, LeO (spec_TermOk.j1 k y0 y1 y2 y3 y4) (spec_TermOk.j1 (k + 1) y0 y1 y2 y3 y4)) ∧ (∀ y0 y1 y2 y3 y4, LeO (spec_TermOk.j2 k y0 y1 y2 y3 y4) (spec_TermOk.j2 (k + 1) y0 y1 y2 y3 y4)) ∧ (∀ y0 y1 y2 y3 y4, LeO (spec_TermOk.j3 k y0 y1 y2 y3 y4) (spec_TermOk.j3 (k + 1) y0 y1 y2 y3 y4))
 | 0 => ⟨fun _ _ _ _ r h => by simp [spec_TermOk.l0] at h, fun _ _ _ _ _ r h => by simp [spec_TermOk.j1] at h, fun _ _ _ _ _ r h => by simp [spec_TermOk.j2] at h, fun _ _ _ _ _ r h => by simp [spec_TermOk.j3] at h⟩
 | k + 1 => by
  obtain ⟨ih0, ih1, ih2, ih3⟩ := spec_TermOk.mono_l k
  refine ⟨?_, ?_, ?_, ?_⟩
  ·intro y0 y1 y2 y3
   unfold spec_TermOk.l0
   repeat' first
   | (with_reducible exact ih0 _ _ _ _)
   | (with_reducible exact ih1 _ _ _ _ _)
   | (with_reducible exact ih2 _ _ _ _ _)
   | (with_reducible exact ih3 _ _ _ _ _)
   | (with_reducible exact LeO.refl _)
   | (with_reducible exact LeO.none _)
   | (with_reducible refine LeO.ite ?_ ?_)
   | (with_reducible refine LeO.bind ?_ (fun _ => ?_))
   | exact ih0 _ _ _ _
   | exact ih1 _ _ _ _ _
   | exact ih2 _ _ _ _ _
   | exact ih3 _ _ _ _ _
   | exact LeO.none _
   | refine LeO.ite ?_ ?_
   | refine LeO.bind ?_ (fun _ => ?_)
  ·intro y0 y1 y2 y3 y4
   unfold spec_TermOk.j1
   repeat' first
   | (with_reducible exact ih0 _ _ _ _)
   | (with_reducible exact ih1 _ _ _ _ _)
   | (with_reducible exact ih2 _ _ _ _ _)
   | (with_reducible exact ih3 _ _ _ _ _)
   | (with_reducible exact LeO.refl _)
   | (with_reducible exact LeO.none _)
   | (with_reducible refine LeO.ite ?_ ?_)
   | (with_reducible refine LeO.bind ?_ (fun _ => ?_))
   | exact ih0 _ _ _ _
   | exact ih1 _ _ _ _ _
   | exact ih2 _ _ _ _ _
   | exact ih3 _ _ _ _ _
   | exact LeO.none _
   | refine LeO.ite ?_ ?_
   | refine LeO.bind ?_ (fun _ => ?_)
  ·intro y0 y1 y2 y3 y4
   unfold spec_TermOk.j2
   repeat' first
   | (with_reducible exact ih0 _ _ _ _)
   | (with_reducible exact ih1 _ _ _ _ _)
   | (with_reducible exact ih2 _ _ _ _ _)
   | (with_reducible exact ih3 _ _ _ _ _)
   | (with_reducible exact LeO.refl _)
   | (with_reducible exact LeO.none _)
   | (with_reducible refine LeO.ite ?_ ?_)
   | (with_reducible refine LeO.bind ?_ (fun _ => ?_))
   | exact ih0 _ _ _ _
   | exact ih1 _ _ _ _ _
   | exact ih2 _ _ _ _ _
   | exact ih3 _ _ _ _ _
   | exact LeO.none _
   | refine LeO.ite ?_ ?_
   | refine LeO.bind ?_ (fun _ => ?_)
  ·intro y0 y1 y2 y3 y4
   unfold spec_TermOk.j3
   repeat' first
   | (with_reducible exact ih0 _ _ _ _)
   | (with_reducible exact ih1 _ _ _ _ _)
   | (with_reducible exact ih2 _ _ _ _ _)
   | (with_reducible exact ih3 _ _ _ _ _)
   | (with_reducible exact LeO.refl _)
   | (with_reducible exact LeO.none _)
   | (with_reducible refine LeO.ite ?_ ?_)
   | (with_reducible refine LeO.bind ?_ (fun _ => ?_))
   | exact ih0 _ _ _ _
   | exact ih1 _ _ _ _ _
   | exact ih2 _ _ _ _ _
   | exact ih3 _ _ _ _ _
   | exact LeO.none _
   | refine LeO.ite ?_ ?_
   | refine LeO.bind ?_ (fun _ => ?_)
theorem spec_TermOk.mono : ∀ a0 a1 k, LeO (spec_TermOk.f k a0 a1) (spec_TermOk.f (k + 1) a0 a1) := by
 intro a0 a1 k
 obtain ⟨ih0, ih1, ih2, ih3⟩ := spec_TermOk.mono_l k
 unfold spec_TermOk.f
 repeat' first
   | (with_reducible exact ih0 _ _ _ _)
   | (with_reducible exact ih1 _ _ _ _ _)
   | (with_reducible exact ih2 _ _ _ _ _)
   | (with_reducible exact ih3 _ _ _ _ _)
   | (with_reducible exact LeO.refl _)
   | (with_reducible exact LeO.none _)
   | (with_reducible refine LeO.ite ?_ ?_)
   | (with_reducible refine LeO.bind ?_ (fun _ => ?_))
   | exact ih0 _ _ _ _
   | exact ih1 _ _ _ _ _
   | exact ih2 _ _ _ _ _
   | exact ih3 _ _ _ _ _
   | exact LeO.none _
   | refine LeO.ite ?_ ?_
   | refine LeO.bind ?_ (fun _ => ?_)
set_option maxHeartbeats 8000000 in
set_option maxRecDepth 100000 in
theorem spec_TermOk.calls (k : Nat) (a0 : Int) (A1 : Option Addr) (c1 : Nat) (l1 : List (S47)) (r : Bool) (w : World) (hr1 : Kd.C k47 w A1 l1.length l1) (hc1 : l1.length ≤ c1) (h : spec_TermOk.f k a0 l1 = some r) :
  Calls Try.prog 28 #[.int .i64 a0, .slice A1 l1.length c1] w fun e w' => e = .returned (.bool r) ∧ Drawn0 w w' := by
 have hu47 := Try.underlying47
 have HR1 := Aside0.mk hr1
 have HC1 := Aside0.mk hc1
 clear hr1 hc1
 have H : (spec_TermOk.l0 k a0 l1 0 0) = some r := h
 clear h
 have H' := Aside0.mk H
 clear H
 go_enter Try.func28, Try.ntmps28
 go_wp2
 go_loopg [5, 6] k (fun kq v5 v6 w' => ∃ (x5_1 : Int) (x6_1 : Int), v5 = .int .i64 x5_1 ∧ v6 = .int .i64 x6_1 ∧ Aside0 (spec_TermOk.l0 kq a0 l1 x5_1 x6_1 = some r) ∧ Aside0 (kq ≤ k) ∧ Drawn0 w w')
 case atStart => exact ⟨(0), (0), (by first | rfl | (simp; done) | (simp [*]; done)), (by first | rfl | (simp; done) | (simp [*]; done)), H', ⟨Nat.le_refl _⟩, by repeat (first | exact Drawn0.refl _ | apply Drawn0.step)⟩
 case round =>
  clear H'
  try clear c1
  try clear c2
  try clear p2
  obtain ⟨x5_1, x6_1, rfl, rfl, HA, HK1, ⟨m1, rfl⟩⟩ := hrel
  cases gk with
  | zero => exact absurd HA.out (by simp [spec_TermOk.l0])
  | succ k1 =>
   have H := HA.out
   clear HA
   simp only [spec_TermOk.l0] at H
   by_cases c3 : x6_1 < (l1.length : Int)
   ·rw [if_pos c3] at H
    have c3b0 : decide (x6_1 < (l1.length : Int)) = true := decide_eq_true c3
    clear c3
    have HC4 := Aside0.mk H
    clear H
    go_upto_region 6 with (fail)
    go_cut [13] (fun v13 wc => ∃ (kq : Nat) (x13_3 : Bool), v13 = .bool x13_3 ∧ Aside0 (spec_TermOk.j1 kq a0 l1 x5_1 x6_1 x13_3 = some r) ∧ Aside0 (kq ≤ k1) ∧ Drawn0 w wc)
    case first =>
     have H := HC4.out
     clear HC4
     by_cases c5 : 0 ≤ x6_1
     ·rw [if_pos c5] at H
      have c5b0 : decide (0 ≤ x6_1) = true := decide_eq_true c5
      clear c5
      (first | rw [c5b0] | (simp only [i64_w, i32_w]; rw [c5b0]) | skip)
      by_cases c6 : ((rd_T47 l1 x6_1).f0) = 0
      ·rw [if_pos c6] at H
       have c6b0 : (((rd_T47 l1 x6_1).f0) == 0) = true := beq_iff_eq.mpr c6
       have c6b1 : (((rd_T47 l1 x6_1).f0) != 0) = false := bne_eq_false_iff_eq.mpr c6
       clear c6
       by_cases c7 : ((rd_T47 l1 x6_1).f1) ≥ 0
       ·rw [if_pos c7] at H
        have c7b0 : decide (0 ≤ ((rd_T47 l1 x6_1).f1)) = true := decide_eq_true c7
        clear c7
        have H' := Aside0.mk H
        clear H
        have p144 : 0 ≤ (x6_1 : Int) := of_decide_eq_true (by assumption)
        have q144 : x6_1 < (l1.length : Int) := of_decide_eq_true (by assumption)
        obtain ⟨ad144, e144, hx144_0, hx144_1⟩ := at_T47 HR1.out x6_1 p144 q144
        cases e144
        replace p144 := eq_true p144
        replace q144 := eq_true q144
        have p145 : 0 ≤ (x6_1 : Int) := of_decide_eq_true (by assumption)
        have q145 : x6_1 < (l1.length : Int) := of_decide_eq_true (by assumption)
        obtain ⟨ad145, e145, hx145_0, hx145_1⟩ := at_T47 HR1.out x6_1 p145 q145
        obtain rfl : ad144 = ad145 := (by injection e145)
        replace p145 := eq_true p145
        replace q145 := eq_true q145
        have p146 : 0 ≤ (x6_1 : Int) := of_decide_eq_true (by assumption)
        have q146 : x6_1 < (l1.length : Int) := of_decide_eq_true (by assumption)
        obtain ⟨ad146, e146, hx146_0, hx146_1⟩ := at_T47 HR1.out x6_1 p146 q146
        obtain rfl : ad144 = ad146 := (by injection e146)
        replace p146 := eq_true p146
        replace q146 := eq_true q146
        go_wp2
        go_meet
        case rel => exact ⟨_, (decide (((rd_T47 l1 x6_1).f1) < a0)), (by first | rfl | (simp; done) | (simp [*]; done)), H', ⟨by have := HK1.out; first | omega | exact Nat.le_refl _⟩, by repeat (first | exact Drawn0.refl _ | apply Drawn0.step)⟩
       ·rw [if_neg c7] at H
        have c7b0 : decide (0 ≤ ((rd_T47 l1 x6_1).f1)) = false := decide_eq_false c7
        clear c7
        have H' := Aside0.mk H
        clear H
        have p144 : 0 ≤ (x6_1 : Int) := of_decide_eq_true (by assumption)
        have q144 : x6_1 < (l1.length : Int) := of_decide_eq_true (by assumption)
        obtain ⟨ad144, e144, hx144_0, hx144_1⟩ := at_T47 HR1.out x6_1 p144 q144
        cases e144
        replace p144 := eq_true p144
        replace q144 := eq_true q144
        have p145 : 0 ≤ (x6_1 : Int) := of_decide_eq_true (by assumption)
        have q145 : x6_1 < (l1.length : Int) := of_decide_eq_true (by assumption)
        obtain ⟨ad145, e145, hx145_0, hx145_1⟩ := at_T47 HR1.out x6_1 p145 q145
        obtain rfl : ad144 = ad145 := (by injection e145)
        replace p145 := eq_true p145
        replace q145 := eq_true q145
        go_wp2
        go_meet
        case rel => exact ⟨_, (false), (by first | rfl | (simp; done) | (simp [*]; done)), H', ⟨by have := HK1.out; first | omega | exact Nat.le_refl _⟩, by repeat (first | exact Drawn0.refl _ | apply Drawn0.step)⟩
      ·rw [if_neg c6] at H
       have c6b0 : (((rd_T47 l1 x6_1).f0) == 0) = false := beq_eq_false_iff_ne.mpr c6
       have c6b1 : (((rd_T47 l1 x6_1).f0) != 0) = true := bne_iff_ne.mpr c6
       have H' := Aside0.mk H
       clear H
       have p144 : 0 ≤ (x6_1 : Int) := of_decide_eq_true (by assumption)
       have q144 : x6_1 < (l1.length : Int) := of_decide_eq_true (by assumption)
       obtain ⟨ad144, e144, hx144_0, hx144_1⟩ := at_T47 HR1.out x6_1 p144 q144
       cases e144
       replace p144 := eq_true p144
       replace q144 := eq_true q144
       go_wp2
       go_meet
       case rel => exact ⟨_, (false), (by first | rfl | (simp; done) | (simp [*]; done)), H', ⟨by have := HK1.out; first | omega | exact Nat.le_refl _⟩, by repeat (first | exact Drawn0.refl _ | apply Drawn0.step)⟩
     ·rw [if_neg c5] at H
      exact absurd H (by simp)
    case rest =>
     clear HC4
     try clear c1
     try clear p1
     try clear q1
     try clear hx1
     try clear c2
     try clear p2
     try clear c3
     try clear c3b0
     try clear c5
     try clear c5b0
     try clear c6
     try clear c6b0
     try clear c6b1
     try clear c7
     try clear c7b0
     try clear hx144_0
     try clear hx144_1
     try clear hx145_0
     try clear hx145_1
     try clear hx146_0
     try clear hx146_1
     try clear p144
     try clear p145
     try clear p146
     try clear p2
     try clear q144
     try clear q145
     try clear q146
     obtain ⟨kq, x13_3, rfl, HA, HJ3, ⟨mc3, rfl⟩⟩ := hcut
     cases kq with
     | zero => exact absurd HA.out (by simp [spec_TermOk.j1])
     | succ kj3 =>
      have H := HA.out
      clear HA
      simp only [spec_TermOk.j1] at H
      by_cases c8 : x13_3 = true
      ·subst c8
       rw [if_pos rfl] at H
       have H' := Aside0.mk H
       clear H
       go_wp2
       go_roundg kj3
       case measure => have := HK1.out; have := HJ3.out; omega
       case rel => exact ⟨(wrap64 (x5_1 + 1)), (wrap64 (x6_1 + 1)), (by first | rfl | (simp; done) | (simp [*]; done)), (by first | rfl | (simp; done) | (simp [*]; done)), H', ⟨by have := HK1.out; have := HJ3.out; omega⟩, by repeat (first | exact Drawn0.refl _ | apply Drawn0.step)⟩
      ·replace c8 := Bool.eq_false_iff.mpr c8
       subst c8
       rw [if_neg (show ¬ (false = true) by decide)] at H
       have HC9 := Aside0.mk H
       clear H
       go_upto_region 8 with (fail)
       go_cut [39] (fun v39 wc => ∃ (kq : Nat) (x39_8 : Bool), v39 = .bool x39_8 ∧ Aside0 (spec_TermOk.j2 kq a0 l1 x5_1 x6_1 x39_8 = some r) ∧ Aside0 (kq ≤ kj3) ∧ Drawn0 w wc)
       case first =>
        have H := HC9.out
        clear HC9
        by_cases c10 : 0 ≤ x6_1
        ·rw [if_pos c10] at H
         have c10b0 : decide (0 ≤ x6_1) = true := decide_eq_true c10
         clear c10
         (first | rw [c10b0] | (simp only [i64_w, i32_w]; rw [c10b0]) | skip)
         by_cases c11 : x6_1 < (l1.length : Int)
         ·rw [if_pos c11] at H
          have c11b0 : decide (x6_1 < (l1.length : Int)) = true := decide_eq_true c11
          clear c11
          by_cases c12 : ((rd_T47 l1 x6_1).f0) = 1
          ·rw [if_pos c12] at H
           have c12b0 : (((rd_T47 l1 x6_1).f0) == 1) = true := beq_iff_eq.mpr c12
           have c12b1 : (((rd_T47 l1 x6_1).f0) != 1) = false := bne_eq_false_iff_eq.mpr c12
           clear c12
           by_cases c13 : ((rd_T47 l1 x6_1).f1) ≥ 0
           ·rw [if_pos c13] at H
            have c13b0 : decide (0 ≤ ((rd_T47 l1 x6_1).f1)) = true := decide_eq_true c13
            clear c13
            by_cases c14 : ((rd_T47 l1 x6_1).f1) ≤ a0
            ·rw [if_pos c14] at H
             have c14b0 : decide (((rd_T47 l1 x6_1).f1) ≤ a0) = true := decide_eq_true c14
             clear c14
             have H' := Aside0.mk H
             clear H
             have p147 : 0 ≤ (x6_1 : Int) := of_decide_eq_true (by assumption)
             have q147 : x6_1 < (l1.length : Int) := of_decide_eq_true (by assumption)
             obtain ⟨ad147, e147, hx147_0, hx147_1⟩ := at_T47 HR1.out x6_1 p147 q147
             cases e147
             replace p147 := eq_true p147
             replace q147 := eq_true q147
             have p148 : 0 ≤ (x6_1 : Int) := of_decide_eq_true (by assumption)
             have q148 : x6_1 < (l1.length : Int) := of_decide_eq_true (by assumption)
             obtain ⟨ad148, e148, hx148_0, hx148_1⟩ := at_T47 HR1.out x6_1 p148 q148
             obtain rfl : ad147 = ad148 := (by injection e148)
             replace p148 := eq_true p148
             replace q148 := eq_true q148
             have p149 : 0 ≤ (x6_1 : Int) := of_decide_eq_true (by assumption)
             have q149 : x6_1 < (l1.length : Int) := of_decide_eq_true (by assumption)
             obtain ⟨ad149, e149, hx149_0, hx149_1⟩ := at_T47 HR1.out x6_1 p149 q149
             obtain rfl : ad147 = ad149 := (by injection e149)
             replace p149 := eq_true p149
             replace q149 := eq_true q149
             go_wp2
             go_meet
             case rel => exact ⟨_, (true), (by first | rfl | (simp; done) | (simp [*]; done)), H', ⟨by have := HK1.out; have := HJ3.out; first | omega | exact Nat.le_refl _⟩, by repeat (first | exact Drawn0.refl _ | apply Drawn0.step)⟩
            ·rw [if_neg c14] at H
             have c14b0 : decide (((rd_T47 l1 x6_1).f1) ≤ a0) = false := decide_eq_false c14
             clear c14
             have H' := Aside0.mk H
             clear H
             have p147 : 0 ≤ (x6_1 : Int) := of_decide_eq_true (by assumption)
             have q147 : x6_1 < (l1.length : Int) := of_decide_eq_true (by assumption)
             obtain ⟨ad147, e147, hx147_0, hx147_1⟩ := at_T47 HR1.out x6_1 p147 q147
             cases e147
             replace p147 := eq_true p147
             replace q147 := eq_true q147
             have p148 : 0 ≤ (x6_1 : Int) := of_decide_eq_true (by assumption)
             have q148 : x6_1 < (l1.length : Int) := of_decide_eq_true (by assumption)
             obtain ⟨ad148, e148, hx148_0, hx148_1⟩ := at_T47 HR1.out x6_1 p148 q148
             obtain rfl : ad147 = ad148 := (by injection e148)
             replace p148 := eq_true p148
             replace q148 := eq_true q148
             have p149 : 0 ≤ (x6_1 : Int) := of_decide_eq_true (by assumption)
             have q149 : x6_1 < (l1.length : Int) := of_decide_eq_true (by assumption)
             obtain ⟨ad149, e149, hx149_0, hx149_1⟩ := at_T47 HR1.out x6_1 p149 q149
             obtain rfl : ad147 = ad149 := (by injection e149)
             replace p149 := eq_true p149
             replace q149 := eq_true q149
             have p150 : 0 ≤ (x6_1 : Int) := of_decide_eq_true (by assumption)
             have q150 : x6_1 < (l1.length : Int) := of_decide_eq_true (by assumption)
             obtain ⟨ad150, e150, hx150_0, hx150_1⟩ := at_T47 HR1.out x6_1 p150 q150
             obtain rfl : ad147 = ad150 := (by injection e150)
             replace p150 := eq_true p150
             replace q150 := eq_true q150
             go_wp2
             go_meet
             case rel => exact ⟨_, (((wrap64 (((rd_T47 l1 x6_1).f1) - 1)) == a0)), (by first | rfl | (simp; done) | (simp [*]; done)), H', ⟨by have := HK1.out; have := HJ3.out; first | omega | exact Nat.le_refl _⟩, by repeat (first | exact Drawn0.refl _ | apply Drawn0.step)⟩
           ·rw [if_neg c13] at H
            have c13b0 : decide (0 ≤ ((rd_T47 l1 x6_1).f1)) = false := decide_eq_false c13
            clear c13
            have H' := Aside0.mk H
            clear H
            have p147 : 0 ≤ (x6_1 : Int) := of_decide_eq_true (by assumption)
            have q147 : x6_1 < (l1.length : Int) := of_decide_eq_true (by assumption)
            obtain ⟨ad147, e147, hx147_0, hx147_1⟩ := at_T47 HR1.out x6_1 p147 q147
            cases e147
            replace p147 := eq_true p147
            replace q147 := eq_true q147
            have p148 : 0 ≤ (x6_1 : Int) := of_decide_eq_true (by assumption)
            have q148 : x6_1 < (l1.length : Int) := of_decide_eq_true (by assumption)
            obtain ⟨ad148, e148, hx148_0, hx148_1⟩ := at_T47 HR1.out x6_1 p148 q148
            obtain rfl : ad147 = ad148 := (by injection e148)
            replace p148 := eq_true p148
            replace q148 := eq_true q148
            go_wp2
            go_meet
            case rel => exact ⟨_, (false), (by first | rfl | (simp; done) | (simp [*]; done)), H', ⟨by have := HK1.out; have := HJ3.out; first | omega | exact Nat.le_refl _⟩, by repeat (first | exact Drawn0.refl _ | apply Drawn0.step)⟩
          ·rw [if_neg c12] at H
           have c12b0 : (((rd_T47 l1 x6_1).f0) == 1) = false := beq_eq_false_iff_ne.mpr c12
           have c12b1 : (((rd_T47 l1 x6_1).f0) != 1) = true := bne_iff_ne.mpr c12
           have H' := Aside0.mk H
           clear H
           have p147 : 0 ≤ (x6_1 : Int) := of_decide_eq_true (by assumption)
           have q147 : x6_1 < (l1.length : Int) := of_decide_eq_true (by assumption)
           obtain ⟨ad147, e147, hx147_0, hx147_1⟩ := at_T47 HR1.out x6_1 p147 q147
           cases e147
           replace p147 := eq_true p147
           replace q147 := eq_true q147
           go_wp2
           go_meet
           case rel => exact ⟨_, (false), (by first | rfl | (simp; done) | (simp [*]; done)), H', ⟨by have := HK1.out; have := HJ3.out; first | omega | exact Nat.le_refl _⟩, by repeat (first | exact Drawn0.refl _ | apply Drawn0.step)⟩
         ·rw [if_neg c11] at H
          exact absurd H (by simp)
        ·rw [if_neg c10] at H
         exact absurd H (by simp)
       case rest =>
        clear HC9
        try clear c1
        try clear p1
        try clear q1
        try clear hx1
        try clear c2
        try clear p2
        try clear c3
        try clear c3b0
        try clear c5
        try clear c5b0
        try clear c6
        try clear c6b0
        try clear c6b1
        try clear p6
        try clear c7
        try clear c7b0
        try clear c8
        try clear c10
        try clear c10b0
        try clear c11
        try clear c11b0
        try clear c12
        try clear c12b0
        try clear c12b1
        try clear c13
        try clear c13b0
        try clear c14
        try clear c14b0
        try clear p14
        try clear q14
        try clear hx14
        try clear hx144_0
        try clear hx144_1
        try clear hx145_0
        try clear hx145_1
        try clear hx146_0
        try clear hx146_1
        try clear hx147_0
        try clear hx147_1
        try clear hx148_0
        try clear hx148_1
        try clear hx149_0
        try clear hx149_1
        try clear hx150_0
        try clear hx150_1
        try clear p1
        try clear p144
        try clear p145
        try clear p146
        try clear p147
        try clear p148
        try clear p149
        try clear p150
        try clear p2
        try clear q1
        try clear q144
        try clear q145
        try clear q146
        try clear q147
        try clear q148
        try clear q149
        try clear q150
        obtain ⟨kq, x39_8, rfl, HA, HJ8, ⟨mc8, rfl⟩⟩ := hcut
        cases kq with
        | zero => exact absurd HA.out (by simp [spec_TermOk.j2])
        | succ kj8 =>
         have H := HA.out
         clear HA
         simp only [spec_TermOk.j2] at H
         by_cases c15 : x39_8 = true
         ·subst c15
          rw [if_pos rfl] at H
          have H' := Aside0.mk H
          clear H
          go_wp2
          go_roundg kj8
          case measure => have := HK1.out; have := HJ3.out; have := HJ8.out; omega
          case rel => exact ⟨(wrap64 (x5_1 + 1)), (wrap64 (x6_1 + 1)), (by first | rfl | (simp; done) | (simp [*]; done)), (by first | rfl | (simp; done) | (simp [*]; done)), H', ⟨by have := HK1.out; have := HJ3.out; have := HJ8.out; omega⟩, by repeat (first | exact Drawn0.refl _ | apply Drawn0.step)⟩
         ·replace c15 := Bool.eq_false_iff.mpr c15
          subst c15
          rw [if_neg (show ¬ (false = true) by decide)] at H
          have HC16 := Aside0.mk H
          clear H
          go_upto_region 10 with (fail)
          go_cut [75] (fun v75 wc => ∃ (kq : Nat) (x75_15 : Bool), v75 = .bool x75_15 ∧ Aside0 (spec_TermOk.j3 kq a0 l1 x5_1 x6_1 x75_15 = some r) ∧ Aside0 (kq ≤ kj8) ∧ Drawn0 w wc)
          case first =>
           have H := HC16.out
           clear HC16
           by_cases c17 : 0 ≤ x6_1
           ·rw [if_pos c17] at H
            have c17b0 : decide (0 ≤ x6_1) = true := decide_eq_true c17
            clear c17
            (first | rw [c17b0] | (simp only [i64_w, i32_w]; rw [c17b0]) | skip)
            by_cases c18 : x6_1 < (l1.length : Int)
            ·rw [if_pos c18] at H
             have c18b0 : decide (x6_1 < (l1.length : Int)) = true := decide_eq_true c18
             clear c18
             by_cases c19 : (((rd_T47 l1 x6_1).f0) == 2 && (((rd_T47 l1 x6_1).f1) == 0)) = true
             ·rw [if_pos c19] at H
              have c19b0 : (((rd_T47 l1 x6_1).f0) == 2 && (((rd_T47 l1 x6_1).f1) == 0)) = true := c19
              (try (have c19b1 : decide (((rd_T47 l1 x6_1).f0) = 2 && (((rd_T47 l1 x6_1).f1) == 0)) = true := by simpa using c19))
              (try (have c19b2 : (((rd_T47 l1 x6_1).f0) == 2 && (((rd_T47 l1 x6_1).f1) == 0)) = true := by simpa using c19))
              clear c19
              have H' := Aside0.mk H
              clear H
              have p151 : 0 ≤ (x6_1 : Int) := of_decide_eq_true (by assumption)
              have q151 : x6_1 < (l1.length : Int) := of_decide_eq_true (by assumption)
              obtain ⟨ad151, e151, hx151_0, hx151_1⟩ := at_T47 HR1.out x6_1 p151 q151
              cases e151
              replace p151 := eq_true p151
              replace q151 := eq_true q151
              go_wp2
              go_meet
              case rel => exact ⟨_, (decide (x5_1 ≥ 1)), (by first | rfl | (simp; done) | (simp [*]; done)), H', ⟨by have := HK1.out; have := HJ3.out; have := HJ8.out; first | omega | exact Nat.le_refl _⟩, by repeat (first | exact Drawn0.refl _ | apply Drawn0.step)⟩
             ·rw [if_neg c19] at H
              have c19b0 : (((rd_T47 l1 x6_1).f0) == 2 && (((rd_T47 l1 x6_1).f1) == 0)) = false := by simpa using c19
              (try (have c19b1 : decide (((rd_T47 l1 x6_1).f0) = 2 && (((rd_T47 l1 x6_1).f1) == 0)) = false := by simpa using c19))
              (try (have c19b2 : (((rd_T47 l1 x6_1).f0) == 2 && (((rd_T47 l1 x6_1).f1) == 0)) = false := by simpa using c19))
              (try (have c19b3 : ¬ (((rd_T47 l1 x6_1).f0) = 2 && (((rd_T47 l1 x6_1).f1) == 0)) := by simpa using c19))
              clear c19
              have H' := Aside0.mk H
              clear H
              have p151 : 0 ≤ (x6_1 : Int) := of_decide_eq_true (by assumption)
              have q151 : x6_1 < (l1.length : Int) := of_decide_eq_true (by assumption)
              obtain ⟨ad151, e151, hx151_0, hx151_1⟩ := at_T47 HR1.out x6_1 p151 q151
              cases e151
              replace p151 := eq_true p151
              replace q151 := eq_true q151
              go_wp2
              go_meet
              case rel => exact ⟨_, (false), (by first | rfl | (simp; done) | (simp [*]; done)), H', ⟨by have := HK1.out; have := HJ3.out; have := HJ8.out; first | omega | exact Nat.le_refl _⟩, by repeat (first | exact Drawn0.refl _ | apply Drawn0.step)⟩
            ·rw [if_neg c18] at H
             exact absurd H (by simp)
           ·rw [if_neg c17] at H
            exact absurd H (by simp)
          case rest =>
           clear HC16
           try clear c1
           try clear p1
           try clear q1
           try clear hx1
           try clear c2
           try clear p2
           try clear c3
           try clear c3b0
           try clear c5
           try clear c5b0
           try clear c6
           try clear c6b0
           try clear c6b1
           try clear p6
           try clear c7
           try clear c7b0
           try clear c8
           try clear c10
           try clear c10b0
           try clear c11
           try clear c11b0
           try clear c12
           try clear c12b0
           try clear c12b1
           try clear c13
           try clear c13b0
           try clear c14
           try clear c14b0
           try clear p14
           try clear q14
           try clear hx14
           try clear c15
           try clear p15
           try clear q15
           try clear hx15
           try clear c17
           try clear c17b0
           try clear c18
           try clear c18b0
           try clear c19
           try clear c19b0
           try clear c19b1
           try clear c19b2
           try clear hx144_0
           try clear hx144_1
           try clear hx145_0
           try clear hx145_1
           try clear hx146_0
           try clear hx146_1
           try clear hx147_0
           try clear hx147_1
           try clear hx148_0
           try clear hx148_1
           try clear hx149_0
           try clear hx149_1
           try clear hx150_0
           try clear hx150_1
           try clear hx151_0
           try clear hx151_1
           try clear p1
           try clear p14
           try clear p144
           try clear p145
           try clear p146
           try clear p147
           try clear p148
           try clear p149
           try clear p150
           try clear p151
           try clear p2
           try clear p6
           try clear q1
           try clear q14
           try clear q144
           try clear q145
           try clear q146
           try clear q147
           try clear q148
           try clear q149
           try clear q150
           try clear q151
           obtain ⟨kq, x75_15, rfl, HA, HJ15, ⟨mc15, rfl⟩⟩ := hcut
           cases kq with
           | zero => exact absurd HA.out (by simp [spec_TermOk.j3])
           | succ kj15 =>
            have H := HA.out
            clear HA
            simp only [spec_TermOk.j3] at H
            by_cases c20 : x75_15 = true
            ·subst c20
             rw [if_pos rfl] at H
             have H' := Aside0.mk H
             clear H
             go_wp2
             go_roundg kj15
             case measure => have := HK1.out; have := HJ3.out; have := HJ8.out; have := HJ15.out; omega
             case rel => exact ⟨(x5_1), (wrap64 (x6_1 + 1)), (by first | rfl | (simp; done) | (simp [*]; done)), (by first | rfl | (simp; done) | (simp [*]; done)), H', ⟨by have := HK1.out; have := HJ3.out; have := HJ8.out; have := HJ15.out; omega⟩, by repeat (first | exact Drawn0.refl _ | apply Drawn0.step)⟩
            ·replace c20 := Bool.eq_false_iff.mpr c20
             subst c20
             rw [if_neg (show ¬ (false = true) by decide)] at H
             by_cases c21 : 0 ≤ x6_1
             ·rw [if_pos c21] at H
              have c21b0 : decide (0 ≤ x6_1) = true := decide_eq_true c21
              clear c21
              by_cases c22 : x6_1 < (l1.length : Int)
              ·rw [if_pos c22] at H
               have c22b0 : decide (x6_1 < (l1.length : Int)) = true := decide_eq_true c22
               clear c22
               replace H := Option.bind_eq_some_iff.mp H
               obtain ⟨t153, A230, H⟩ := H
               try dsimp only at H
               have A23 := Aside0.mk A230
               clear A230
               by_cases c24 : t153 = true
               ·subst c24
                rw [if_pos rfl] at H
                by_cases c25 : ((rd_T47 l1 x6_1).f1) = 0
                ·rw [if_pos c25] at H
                 have c25b0 : (((rd_T47 l1 x6_1).f1) == 0) = true := beq_iff_eq.mpr c25
                 have c25b1 : (((rd_T47 l1 x6_1).f1) != 0) = false := bne_eq_false_iff_eq.mpr c25
                 clear c25
                 by_cases c26 : x5_1 ≥ 2
                 ·rw [if_pos c26] at H
                  have c26b0 : decide (2 ≤ x5_1) = true := decide_eq_true c26
                  clear c26
                  have H' := Aside0.mk H
                  clear H
                  have p152 : 0 ≤ (x6_1 : Int) := of_decide_eq_true (by assumption)
                  have q152 : x6_1 < (l1.length : Int) := of_decide_eq_true (by assumption)
                  obtain ⟨ad152, e152, hx152_0, hx152_1⟩ := at_T47 HR1.out x6_1 p152 q152
                  cases e152
                  replace p152 := eq_true p152
                  replace q152 := eq_true q152
                  go_wp2_with (first | ((with_reducible refine gate_callee (f := 47) rfl ?_); refine goesL_ (some 92) rfl rfl Try.func47 (by kernel_rfl) rfl #[.int .i64 ((rd_T47 l1 x6_1).f0), .int .i64 3, .int .i64 5] rfl (by (try simp only [List.map_toArray, List.map_cons, List.map_nil]); first | done | rfl | (simp only [List.length_drop, List.length_take]; rfl)) ?_; (with_reducible refine (spec_l1In.calls ((rd_T47 l1 x6_1).f0) 3 5 true _ A23.out).mono ?_); rintro e w' ⟨rfl, ⟨nd, rfl⟩⟩; refine ⟨_, rfl, ?_⟩; have p154 : 0 ≤ (x6_1 : Int) := of_decide_eq_true (by assumption); have q154 : x6_1 < (l1.length : Int) := of_decide_eq_true (by assumption); obtain ⟨ad154, e154, hx154_0, hx154_1⟩ := at_T47 HR1.out x6_1 p154 q154; obtain rfl : ad152 = ad154 := (by injection e154); replace p154 := eq_true p154; replace q154 := eq_true q154))
                  go_roundg kj15
                  case measure => have := HK1.out; have := HJ3.out; have := HJ8.out; have := HJ15.out; omega
                  case rel => exact ⟨(wrap64 (x5_1 - 1)), (wrap64 (x6_1 + 1)), (by first | rfl | (simp; done) | (simp [*]; done)), (by first | rfl | (simp; done) | (simp [*]; done)), H', ⟨by have := HK1.out; have := HJ3.out; have := HJ8.out; have := HJ15.out; omega⟩, by repeat (first | exact Drawn0.refl _ | apply Drawn0.step)⟩
                 ·rw [if_neg c26] at H
                  have c26b0 : decide (2 ≤ x5_1) = false := decide_eq_false c26
                  clear c26
                  obtain rfl := Option.some.inj H
                  have p152 : 0 ≤ (x6_1 : Int) := of_decide_eq_true (by assumption)
                  have q152 : x6_1 < (l1.length : Int) := of_decide_eq_true (by assumption)
                  obtain ⟨ad152, e152, hx152_0, hx152_1⟩ := at_T47 HR1.out x6_1 p152 q152
                  cases e152
                  replace p152 := eq_true p152
                  replace q152 := eq_true q152
                  go_wp2_with (first | ((with_reducible refine gate_callee (f := 47) rfl ?_); refine goesL_ (some 92) rfl rfl Try.func47 (by kernel_rfl) rfl #[.int .i64 ((rd_T47 l1 x6_1).f0), .int .i64 3, .int .i64 5] rfl (by (try simp only [List.map_toArray, List.map_cons, List.map_nil]); first | done | rfl | (simp only [List.length_drop, List.length_take]; rfl)) ?_; (with_reducible refine (spec_l1In.calls ((rd_T47 l1 x6_1).f0) 3 5 true _ A23.out).mono ?_); rintro e w' ⟨rfl, ⟨nd, rfl⟩⟩; refine ⟨_, rfl, ?_⟩; have p154 : 0 ≤ (x6_1 : Int) := of_decide_eq_true (by assumption); have q154 : x6_1 < (l1.length : Int) := of_decide_eq_true (by assumption); obtain ⟨ad154, e154, hx154_0, hx154_1⟩ := at_T47 HR1.out x6_1 p154 q154; obtain rfl : ad152 = ad154 := (by injection e154); replace p154 := eq_true p154; replace q154 := eq_true q154))
                  go_ret
                  exact ⟨by first | rfl | (simp; done) | (simp [*]; done), by repeat (first | exact Drawn0.refl _ | apply Drawn0.step)⟩
                ·rw [if_neg c25] at H
                 have c25b0 : (((rd_T47 l1 x6_1).f1) == 0) = false := beq_eq_false_iff_ne.mpr c25
                 have c25b1 : (((rd_T47 l1 x6_1).f1) != 0) = true := bne_iff_ne.mpr c25
                 obtain rfl := Option.some.inj H
                 have p152 : 0 ≤ (x6_1 : Int) := of_decide_eq_true (by assumption)
                 have q152 : x6_1 < (l1.length : Int) := of_decide_eq_true (by assumption)
                 obtain ⟨ad152, e152, hx152_0, hx152_1⟩ := at_T47 HR1.out x6_1 p152 q152
                 cases e152
                 replace p152 := eq_true p152
                 replace q152 := eq_true q152
                 go_wp2_with (first | ((with_reducible refine gate_callee (f := 47) rfl ?_); refine goesL_ (some 92) rfl rfl Try.func47 (by kernel_rfl) rfl #[.int .i64 ((rd_T47 l1 x6_1).f0), .int .i64 3, .int .i64 5] rfl (by (try simp only [List.map_toArray, List.map_cons, List.map_nil]); first | done | rfl | (simp only [List.length_drop, List.length_take]; rfl)) ?_; (with_reducible refine (spec_l1In.calls ((rd_T47 l1 x6_1).f0) 3 5 true _ A23.out).mono ?_); rintro e w' ⟨rfl, ⟨nd, rfl⟩⟩; refine ⟨_, rfl, ?_⟩; have p154 : 0 ≤ (x6_1 : Int) := of_decide_eq_true (by assumption); have q154 : x6_1 < (l1.length : Int) := of_decide_eq_true (by assumption); obtain ⟨ad154, e154, hx154_0, hx154_1⟩ := at_T47 HR1.out x6_1 p154 q154; obtain rfl : ad152 = ad154 := (by injection e154); replace p154 := eq_true p154; replace q154 := eq_true q154))
                 go_ret
                 exact ⟨by first | rfl | (simp; done) | (simp [*]; done), by repeat (first | exact Drawn0.refl _ | apply Drawn0.step)⟩
               ·replace c24 := Bool.eq_false_iff.mpr c24
                subst c24
                rw [if_neg (show ¬ (false = true) by decide)] at H
                obtain rfl := Option.some.inj H
                have p152 : 0 ≤ (x6_1 : Int) := of_decide_eq_true (by assumption)
                have q152 : x6_1 < (l1.length : Int) := of_decide_eq_true (by assumption)
                obtain ⟨ad152, e152, hx152_0, hx152_1⟩ := at_T47 HR1.out x6_1 p152 q152
                cases e152
                replace p152 := eq_true p152
                replace q152 := eq_true q152
                go_wp2_with (first | ((with_reducible refine gate_callee (f := 47) rfl ?_); refine goesL_ (some 92) rfl rfl Try.func47 (by kernel_rfl) rfl #[.int .i64 ((rd_T47 l1 x6_1).f0), .int .i64 3, .int .i64 5] rfl (by (try simp only [List.map_toArray, List.map_cons, List.map_nil]); first | done | rfl | (simp only [List.length_drop, List.length_take]; rfl)) ?_; (with_reducible refine (spec_l1In.calls ((rd_T47 l1 x6_1).f0) 3 5 false _ A23.out).mono ?_); rintro e w' ⟨rfl, ⟨nd, rfl⟩⟩; refine ⟨_, rfl, ?_⟩))
                go_ret
                exact ⟨by first | rfl | (simp; done) | (simp [*]; done), by repeat (first | exact Drawn0.refl _ | apply Drawn0.step)⟩
              ·rw [if_neg c22] at H
               exact absurd H (by simp)
             ·rw [if_neg c21] at H
              exact absurd H (by simp)
   ·rw [if_neg c3] at H
    have c3b0 : decide (x6_1 < (l1.length : Int)) = false := decide_eq_false c3
    clear c3
    replace H := Option.bind_eq_some_iff.mp H
    obtain ⟨t143, A270, H⟩ := H
    try dsimp only at H
    have A27 := Aside0.mk A270
    clear A270
    by_cases c28 : t143 = true
    ·subst c28
     rw [if_pos rfl] at H
     by_cases c29 : x5_1 = 1
     ·rw [if_pos c29] at H
      have c29b0 : (x5_1 == 1) = true := beq_iff_eq.mpr c29
      have c29b1 : (x5_1 != 1) = false := bne_eq_false_iff_eq.mpr c29
      clear c29
      obtain rfl := Option.some.inj H
      go_wp2_with (first | ((with_reducible refine gate_callee (f := 47) rfl ?_); refine goesL_ (some 108) rfl rfl Try.func47 (by kernel_rfl) rfl #[.int .i64 a0, .int .i64 1, .int .i64 4] rfl (by (try simp only [List.map_toArray, List.map_cons, List.map_nil]); first | done | rfl | (simp only [List.length_drop, List.length_take]; rfl)) ?_; (with_reducible refine (spec_l1In.calls a0 1 4 true _ A27.out).mono ?_); rintro e w' ⟨rfl, ⟨nd, rfl⟩⟩; refine ⟨_, rfl, ?_⟩))
      go_ret
      exact ⟨by first | rfl | (simp; done) | (simp [*]; done), by repeat (first | exact Drawn0.refl _ | apply Drawn0.step)⟩
     ·rw [if_neg c29] at H
      have c29b0 : (x5_1 == 1) = false := beq_eq_false_iff_ne.mpr c29
      have c29b1 : (x5_1 != 1) = true := bne_iff_ne.mpr c29
      obtain rfl := Option.some.inj H
      go_wp2_with (first | ((with_reducible refine gate_callee (f := 47) rfl ?_); refine goesL_ (some 108) rfl rfl Try.func47 (by kernel_rfl) rfl #[.int .i64 a0, .int .i64 1, .int .i64 4] rfl (by (try simp only [List.map_toArray, List.map_cons, List.map_nil]); first | done | rfl | (simp only [List.length_drop, List.length_take]; rfl)) ?_; (with_reducible refine (spec_l1In.calls a0 1 4 true _ A27.out).mono ?_); rintro e w' ⟨rfl, ⟨nd, rfl⟩⟩; refine ⟨_, rfl, ?_⟩))
      go_ret
      exact ⟨by first | rfl | (simp; done) | (simp [*]; done), by repeat (first | exact Drawn0.refl _ | apply Drawn0.step)⟩
    ·replace c28 := Bool.eq_false_iff.mpr c28
     subst c28
     rw [if_neg (show ¬ (false = true) by decide)] at H
     obtain rfl := Option.some.inj H
     go_wp2_with (first | ((with_reducible refine gate_callee (f := 47) rfl ?_); refine goesL_ (some 108) rfl rfl Try.func47 (by kernel_rfl) rfl #[.int .i64 a0, .int .i64 1, .int .i64 4] rfl (by (try simp only [List.map_toArray, List.map_cons, List.map_nil]); first | done | rfl | (simp only [List.length_drop, List.length_take]; rfl)) ?_; (with_reducible refine (spec_l1In.calls a0 1 4 false _ A27.out).mono ?_); rintro e w' ⟨rfl, ⟨nd, rfl⟩⟩; refine ⟨_, rfl, ?_⟩))
     go_ret
     exact ⟨by first | rfl | (simp; done) | (simp [*]; done), by repeat (first | exact Drawn0.refl _ | apply Drawn0.step)⟩

end Go.Proofs.Ytcaogllnbpmcgaa.P

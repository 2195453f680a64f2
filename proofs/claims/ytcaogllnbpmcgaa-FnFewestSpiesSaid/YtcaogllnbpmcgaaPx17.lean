/- Written by our program myprint.py out of Lean's print of the translation: Go's function comes to just the answer of the Lean function told here. -/
import Derived.Test.YtcaogllnbpmcgaaPx0
import Derived.Test.YtcaogllnbpmcgaaPx5
import Derived.Test.YtcaogllnbpmcgaaPx6
import Derived.Test.YtcaogllnbpmcgaaPx12
import Derived.Test.YtcaogllnbpmcgaaPx14
import Derived.Test.YtcaogllnbpmcgaaPx16
namespace Go.Proofs.Ytcaogllnbpmcgaa.P
open Go.RowKit Go.Proofs.YtcaogllnbpmcgaaW.PrintWords Go.Proofs.YtcaogllnbpmcgaaW.PrintLast Go.Proofs.YtcaogllnbpmcgaaW.PrintMore
attribute [local go_sem] max2_int min2_int max_two min_two max_three min_three max_four min_four   -- for this text's walks alone
set_option linter.unusedVariables false
set_option linter.unusedSimpArgs false

/-! ### laws_FnFewestSpies: function 5 -/
mutual
noncomputable def laws_FnFewestSpies.l0 : Nat → Int → List (S38) → Int → Int → Int → Option (Bool)
 | 0, _, _, _, _, _ => none
 | k + 1, x3, x4, x5, x6, x7 => if x7 < x3 then (laws_FnFewestSpies.l1 k x3 x4 x5 x6 x7 0) else ((some (([] : List (S38)) : List (S38))).bind fun y299 => (if y299.length + x4.length < 4398046511104 then ((some (y299 ++ x4 : List (S38))).bind fun y302 => (if (y302.length : Int) > 0 then ((some (([] : List (S38)) : List (S38))).bind fun y305 => (if 0 ≤ (wrap64 ((x4.length : Int) - 1)) then (if (wrap64 ((x4.length : Int) - 1)) ≤ (x4.length : Int) then ((some (x4.take ((wrap64 ((x4.length : Int) - 1)) : Int).toNat : List (S38))).bind fun y308 => (if y305.length + y308.length < 4398046511104 then ((impl_ClashOk.f k x3 x4).bind fun t316 => (if ((x5 == 0) == (!t316)) = true then (if x5 ≤ x6 then ((impl_FewestSpies.f k x3 (y305 ++ y308)).bind fun t317 => (some (decide (t317 ≤ x5)))) else (some false)) else (some false))) else (none))) else (none)) else (none))) else ((impl_ClashOk.f k x3 x4).bind fun t318 => (if ((x5 == 0) == (!t318)) = true then (if x5 ≤ x6 then ((impl_FewestSpies.f k x3 y302).bind fun t319 => (some (decide (t319 ≤ x5)))) else (some false)) else (some false))))) else (none)))
noncomputable def laws_FnFewestSpies.l1 : Nat → Int → List (S38) → Int → Int → Int → Int → Option (Bool)
 | 0, _, _, _, _, _, _ => none
 | k + 1, x3, x4, x5, x6, x7, x8 => if x8 < (x4.length : Int) then (if 0 ≤ x8 then (if ((rd_T38 x4 x8).f0) = x7 then (laws_FnFewestSpies.l0 k x3 x4 x5 (wrap64 (x6 + 1)) (wrap64 (x7 + 1))) else (laws_FnFewestSpies.l1 k x3 x4 x5 x6 x7 (wrap64 (x8 + 1)))) else (none)) else (laws_FnFewestSpies.l0 k x3 x4 x5 x6 (wrap64 (x7 + 1)))
end
noncomputable def laws_FnFewestSpies.f (k : Nat) (l0 : List Int) : Option (Bool) := if (l0.length : Int) > 1048576 then (some true) else ((spec_DrawFewestSpies.f k l0).bind fun bt290 => ((impl_FewestSpies.f k bt290.1 bt290.2).bind fun t294 => ((spec_FewestSpies.f k bt290.1 bt290.2).bind fun t295 => (if t294 = t295 then (if t294 < 0 then (if t294 = (-1) then ((impl_StoryOk.f k bt290.1 bt290.2).bind fun t296 => (if t296 = true then (some false) else ((laws_alive.f).bind fun t297 => (some t297)))) else (some false)) else (laws_FnFewestSpies.l0 k bt290.1 bt290.2 t294 0 0)) else (some false)))))
theorem laws_FnFewestSpies.mono_l : ∀ k, (∀ y0 y1 y2 y3 y4, LeO (laws_FnFewestSpies.l0 k y0 y1 y2 y3 y4) (laws_FnFewestSpies.l0 (k + 1) y0 y1 y2 y3 y4)) ∧ (∀ y0 y1 y2 y3 y4 y5, LeO (laws_FnFewestSpies.l1 k y0 y1 y2 y3 y4 y5) (laws_FnFewestSpies.l1 (k + 1) y0 y1 y2 y3 y4 y5))
 | 0 => ⟨fun _ _ _ _ _ r h => by simp [laws_FnFewestSpies.l0] at h, fun _ _ _ _ _ _ r h => by simp [laws_FnFewestSpies.l1] at h⟩
 | k + 1 => by
  obtain ⟨ih0, ih1⟩ := laws_FnFewestSpies.mono_l k
  refine ⟨?_, ?_⟩
  ·intro y0 y1 y2 y3 y4
   unfold laws_FnFewestSpies.l0
   repeat' first
   | (with_reducible exact ih0 _ _ _ _ _)
   | (with_reducible exact ih1 _ _ _ _ _ _)
   | (with_reducible exact impl_ClashOk.mono _ _ _)
   | (with_reducible exact impl_FewestSpies.mono _ _ _)
   | (with_reducible exact impl_StoryOk.mono _ _ _)
   | (with_reducible exact spec_DrawFewestSpies.mono _ _)
   | (with_reducible exact spec_FewestSpies.mono _ _ _)
   | (with_reducible exact LeO.refl _)
   | (with_reducible exact LeO.none _)
   | (with_reducible refine LeO.ite ?_ ?_)
   | (with_reducible refine LeO.bind ?_ (fun _ => ?_))
   | exact ih0 _ _ _ _ _
   | exact ih1 _ _ _ _ _ _
   | exact impl_ClashOk.mono _ _ _
   | exact impl_FewestSpies.mono _ _ _
   | exact impl_StoryOk.mono _ _ _
   | exact spec_DrawFewestSpies.mono _ _
   | exact spec_FewestSpies.mono _ _ _
   | exact LeO.none _
   | refine LeO.ite ?_ ?_
   | refine LeO.bind ?_ (fun _ => ?_)
  ·intro y0 y1 y2 y3 y4 y5
   unfold laws_FnFewestSpies.l1
   repeat' first
   | (with_reducible exact ih0 _ _ _ _ _)
   | (with_reducible exact ih1 _ _ _ _ _ _)
   | (with_reducible exact impl_ClashOk.mono _ _ _)
   | (with_reducible exact impl_FewestSpies.mono _ _ _)
   | (with_reducible exact impl_StoryOk.mono _ _ _)
   | (with_reducible exact spec_DrawFewestSpies.mono _ _)
   | (with_reducible exact spec_FewestSpies.mono _ _ _)
   | (with_reducible exact LeO.refl _)
   | (with_reducible exact LeO.none _)
   | (with_reducible refine LeO.ite ?_ ?_)
   | (with_reducible refine LeO.bind ?_ (fun _ => ?_))
   | exact ih0 _ _ _ _ _
   | exact ih1 _ _ _ _ _ _
   | exact impl_ClashOk.mono _ _ _
   | exact impl_FewestSpies.mono _ _ _
   | exact impl_StoryOk.mono _ _ _
   | exact spec_DrawFewestSpies.mono _ _
   | exact spec_FewestSpies.mono _ _ _
   | exact LeO.none _
   | refine LeO.ite ?_ ?_
   | refine LeO.bind ?_ (fun _ => ?_)
theorem laws_FnFewestSpies.mono : ∀ a0 k, LeO (laws_FnFewestSpies.f k a0) (laws_FnFewestSpies.f (k + 1) a0) := by
 intro a0 k
 obtain ⟨ih0, ih1⟩ := laws_FnFewestSpies.mono_l k
 unfold laws_FnFewestSpies.f
 repeat' first
   | (with_reducible exact ih0 _ _ _ _ _)
   | (with_reducible exact ih1 _ _ _ _ _ _)
   | (with_reducible exact impl_ClashOk.mono _ _ _)
   | (with_reducible exact impl_FewestSpies.mono _ _ _)
   | (with_reducible exact impl_StoryOk.mono _ _ _)
   | (with_reducible exact spec_DrawFewestSpies.mono _ _)
   | (with_reducible exact spec_FewestSpies.mono _ _ _)
   | (with_reducible exact LeO.refl _)
   | (with_reducible exact LeO.none _)
   | (with_reducible refine LeO.ite ?_ ?_)
   | (with_reducible refine LeO.bind ?_ (fun _ => ?_))
   | exact ih0 _ _ _ _ _
   | exact ih1 _ _ _ _ _ _
   | exact impl_ClashOk.mono _ _ _
   | exact impl_FewestSpies.mono _ _ _
   | exact impl_StoryOk.mono _ _ _
   | exact spec_DrawFewestSpies.mono _ _
   | exact spec_FewestSpies.mono _ _ _
   | exact LeO.none _
   | refine LeO.ite ?_ ?_
   | refine LeO.bind ?_ (fun _ => ?_)
set_option maxHeartbeats 8000000 in
set_option maxRecDepth 100000 in
theorem laws_FnFewestSpies.calls (k : Nat) (A0 : Option Addr) (c0 : Nat) (l0 : List Int) (r : Bool) (w : World) (hr0 : Kd.C (Kd.int .u8) w A0 l0.length l0) (hc0 : l0.length ≤ c0) (h : laws_FnFewestSpies.f k l0 = some r) :
  Calls Try.prog 5 #[.slice A0 l0.length c0] w fun e w' => e = .returned (.bool r) ∧ Below w.heap.size w w' := by
 have HR0 := Aside0.mk hr0
 have HC0 := Aside0.mk hc0
 clear hr0 hc0
 have HB := Aside0.mk (Below.refl w.heap.size w)
 have H : (if (l0.length : Int) > 1048576 then (some true) else ((spec_DrawFewestSpies.f k l0).bind fun bt290 => ((impl_FewestSpies.f k bt290.1 bt290.2).bind fun t294 => ((spec_FewestSpies.f k bt290.1 bt290.2).bind fun t295 => (if t294 = t295 then (if t294 < 0 then (if t294 = (-1) then ((impl_StoryOk.f k bt290.1 bt290.2).bind fun t296 => (if t296 = true then (some false) else ((laws_alive.f).bind fun t297 => (some t297)))) else (some false)) else (laws_FnFewestSpies.l0 k bt290.1 bt290.2 t294 0 0)) else (some false)))))) = some r := h
 clear h
 by_cases c2 : (l0.length : Int) > 1048576
 ·rw [if_pos c2] at H
  have c2b0 : decide (1048576 < (l0.length : Int)) = true := decide_eq_true c2
  have c2b1 : decide (1048576 < l0.length) = true := decide_eq_true (by omega)
  clear c2
  obtain rfl := Option.some.inj H
  go_enter Try.func5, Try.ntmps5
  go_wp2
  go_ret
  exact ⟨by first | rfl | (simp [errW_none, errW_some] <;> rfl) | (simp [*, errW_none, errW_some] <;> rfl), below_at HB.out⟩
 ·rw [if_neg c2] at H
  have c2b0 : decide (1048576 < (l0.length : Int)) = false := decide_eq_false c2
  have c2b1 : decide (1048576 < l0.length) = false := decide_eq_false (by omega)
  clear c2
  replace H := Option.bind_eq_some_iff.mp H
  obtain ⟨⟨t290, t291⟩, A30, H⟩ := H
  try dsimp only at H
  have A3 := Aside0.mk A30
  clear A30
  replace H := Option.bind_eq_some_iff.mp H
  obtain ⟨t294, A40, H⟩ := H
  try dsimp only at H
  have A4 := Aside0.mk A40
  clear A40
  replace H := Option.bind_eq_some_iff.mp H
  obtain ⟨t295, A50, H⟩ := H
  try dsimp only at H
  have A5 := Aside0.mk A50
  clear A50
  by_cases c6 : t294 = t295
  ·rw [if_pos c6] at H
   have c6b0 : (t294 == t295) = true := beq_iff_eq.mpr c6
   have c6b1 : (t294 != t295) = false := bne_eq_false_iff_eq.mpr c6
   clear c6
   by_cases c7 : t294 < 0
   ·rw [if_pos c7] at H
    have c7b0 : decide (t294 < 0) = true := decide_eq_true c7
    clear c7
    by_cases c8 : t294 = (-1)
    ·rw [if_pos c8] at H
     have c8b0 : (t294 == (-1)) = true := beq_iff_eq.mpr c8
     have c8b1 : (t294 != (-1)) = false := bne_eq_false_iff_eq.mpr c8
     clear c8
     replace H := Option.bind_eq_some_iff.mp H
     obtain ⟨t296, A90, H⟩ := H
     try dsimp only at H
     have A9 := Aside0.mk A90
     clear A90
     by_cases c10 : t296 = true
     ·subst c10
      rw [if_pos rfl] at H
      obtain rfl := Option.some.inj H
      go_enter Try.func5, Try.ntmps5
      go_wp2_with (first | ((with_reducible refine gate_callee (f := 19) rfl ?_); refine goesL_ (some 15) rfl rfl Try.func19 (by kernel_rfl) rfl #[.slice A0 l0.length c0] rfl (by (try simp only [List.map_toArray, List.map_cons, List.map_nil]); first | done | rfl | (simp only [List.length_drop, List.length_take]; rfl)) ?_; (with_reducible refine (spec_DrawFewestSpies.calls k _ _ l0 t290 t291 _ ?side1 ?side2 A3.out).mono ?_); (case side1 => exact Kd.C_below HR0.out lt_); (case side2 => exact HC0.out); rintro e w11 ⟨v292, rfl, ho0, hb⟩; refine ⟨_, rfl, ?_⟩; have n0_ := Aside0.mk (Kd.N_lower (Kd.N_mono (ok' := fun k_ => True) (Kd.S_N (Kd.S_bound ho0)) (fun k_ hk_ => trivial)) (below_size (below_at HB.out))); have n1_ := Aside0.mk (below_step (below_at HB.out) hb); clear HB; have HO293 := n0_; have HB := n1_; clear n0_ n1_; (try clear hb); (try clear hb2); (try clear hk); (try clear hi); (try clear ho0); obtain ⟨Ao12, co12, eo12⟩ := Kd.N_slice HO293.out; subst eo12) | ((with_reducible refine gate_callee (f := 18) rfl ?_); refine goesL_ (some 20) rfl rfl Try.func18 (by kernel_rfl) rfl #[.int .i64 t290, .slice Ao12 t291.length co12] rfl (by (try simp only [List.map_toArray, List.map_cons, List.map_nil]); first | done | rfl | (simp only [List.length_drop, List.length_take]; rfl)) ?_; (with_reducible refine (impl_FewestSpies.calls k t290 _ _ t291 t294 _ ?side1 ?side2 A4.out).mono ?_); (case side1 => exact Kd.C_below (Kd.N_reads' HO293.out).2.2 lt_); (case side2 => exact (Kd.N_reads' HO293.out).2.1); rintro e w13 ⟨rfl, hb⟩; refine ⟨_, rfl, ?_⟩; have n0_ := Aside0.mk (Kd.N_below (Kd.N_below HO293.out lt_) hb); have n1_ := Aside0.mk (below_step (below_at HB.out) hb); clear HO293; clear HB; have HO293 := n0_; have HB := n1_; clear n0_ n1_; (try clear hb); (try clear hb2); (try clear hk); (try clear hi)) | ((with_reducible refine gate_callee (f := 17) rfl ?_); refine goesL_ (some 24) rfl rfl Try.func17 (by kernel_rfl) rfl #[.int .i64 t290, .slice Ao12 t291.length co12] rfl (by (try simp only [List.map_toArray, List.map_cons, List.map_nil]); first | done | rfl | (simp only [List.length_drop, List.length_take]; rfl)) ?_; (with_reducible refine (spec_FewestSpies.calls k t290 _ _ t291 t295 _ ?side1 ?side2 A5.out).mono ?_); (case side1 => exact Kd.C_below (Kd.N_reads' HO293.out).2.2 lt_); (case side2 => exact (Kd.N_reads' HO293.out).2.1); rintro e w14 ⟨rfl, hb⟩; refine ⟨_, rfl, ?_⟩; have n0_ := Aside0.mk (Kd.N_below (Kd.N_below HO293.out lt_) hb); have n1_ := Aside0.mk (below_step (below_at HB.out) hb); clear HO293; clear HB; have HO293 := n0_; have HB := n1_; clear n0_ n1_; (try clear hb); (try clear hb2); (try clear hk); (try clear hi)) | (go_at_call 20; (with_reducible refine (impl_StoryOk.calls k t290 _ _ t291 true _ ?side1 ?side2 A9.out).mono ?_); (case side1 => exact Kd.C_below (Kd.N_reads' HO293.out).2.2 lt_); (case side2 => exact (Kd.N_reads' HO293.out).2.1); rintro e w15 ⟨rfl, hb⟩; have n0_ := Aside0.mk (Kd.N_below (Kd.N_below HO293.out lt_) hb); have n1_ := Aside0.mk (below_step (below_at HB.out) hb); clear HO293; clear HB; have HO293 := n0_; have HB := n1_; clear n0_ n1_; (try clear hb); (try clear hb2); (try clear hk); (try clear hi)))
      go_ret
      exact ⟨by first | rfl | (simp [errW_none, errW_some] <;> rfl) | (simp [*, errW_none, errW_some] <;> rfl), below_at HB.out⟩
     ·replace c10 := Bool.eq_false_iff.mpr c10
      subst c10
      rw [if_neg (show ¬ (false = true) by decide)] at H
      replace H := Option.bind_eq_some_iff.mp H
      obtain ⟨t297, A160, H⟩ := H
      replace H : (some t297) = some r := H
      have A16 := Aside0.mk A160
      clear A160
      obtain rfl := Option.some.inj H
      go_enter Try.func5, Try.ntmps5
      go_wp2_with (first | ((with_reducible refine gate_callee (f := 19) rfl ?_); refine goesL_ (some 15) rfl rfl Try.func19 (by kernel_rfl) rfl #[.slice A0 l0.length c0] rfl (by (try simp only [List.map_toArray, List.map_cons, List.map_nil]); first | done | rfl | (simp only [List.length_drop, List.length_take]; rfl)) ?_; (with_reducible refine (spec_DrawFewestSpies.calls k _ _ l0 t290 t291 _ ?side1 ?side2 A3.out).mono ?_); (case side1 => exact Kd.C_below HR0.out lt_); (case side2 => exact HC0.out); rintro e w17 ⟨v292, rfl, ho0, hb⟩; refine ⟨_, rfl, ?_⟩; have n0_ := Aside0.mk (Kd.N_lower (Kd.N_mono (ok' := fun k_ => True) (Kd.S_N (Kd.S_bound ho0)) (fun k_ hk_ => trivial)) (below_size (below_at HB.out))); have n1_ := Aside0.mk (below_step (below_at HB.out) hb); clear HB; have HO293 := n0_; have HB := n1_; clear n0_ n1_; (try clear hb); (try clear hb2); (try clear hk); (try clear hi); (try clear ho0); obtain ⟨Ao18, co18, eo18⟩ := Kd.N_slice HO293.out; subst eo18) | ((with_reducible refine gate_callee (f := 18) rfl ?_); refine goesL_ (some 20) rfl rfl Try.func18 (by kernel_rfl) rfl #[.int .i64 t290, .slice Ao18 t291.length co18] rfl (by (try simp only [List.map_toArray, List.map_cons, List.map_nil]); first | done | rfl | (simp only [List.length_drop, List.length_take]; rfl)) ?_; (with_reducible refine (impl_FewestSpies.calls k t290 _ _ t291 t294 _ ?side1 ?side2 A4.out).mono ?_); (case side1 => exact Kd.C_below (Kd.N_reads' HO293.out).2.2 lt_); (case side2 => exact (Kd.N_reads' HO293.out).2.1); rintro e w19 ⟨rfl, hb⟩; refine ⟨_, rfl, ?_⟩; have n0_ := Aside0.mk (Kd.N_below (Kd.N_below HO293.out lt_) hb); have n1_ := Aside0.mk (below_step (below_at HB.out) hb); clear HO293; clear HB; have HO293 := n0_; have HB := n1_; clear n0_ n1_; (try clear hb); (try clear hb2); (try clear hk); (try clear hi)) | ((with_reducible refine gate_callee (f := 17) rfl ?_); refine goesL_ (some 24) rfl rfl Try.func17 (by kernel_rfl) rfl #[.int .i64 t290, .slice Ao18 t291.length co18] rfl (by (try simp only [List.map_toArray, List.map_cons, List.map_nil]); first | done | rfl | (simp only [List.length_drop, List.length_take]; rfl)) ?_; (with_reducible refine (spec_FewestSpies.calls k t290 _ _ t291 t295 _ ?side1 ?side2 A5.out).mono ?_); (case side1 => exact Kd.C_below (Kd.N_reads' HO293.out).2.2 lt_); (case side2 => exact (Kd.N_reads' HO293.out).2.1); rintro e w20 ⟨rfl, hb⟩; refine ⟨_, rfl, ?_⟩; have n0_ := Aside0.mk (Kd.N_below (Kd.N_below HO293.out lt_) hb); have n1_ := Aside0.mk (below_step (below_at HB.out) hb); clear HO293; clear HB; have HO293 := n0_; have HB := n1_; clear n0_ n1_; (try clear hb); (try clear hb2); (try clear hk); (try clear hi)) | (go_at_call 20; (with_reducible refine (impl_StoryOk.calls k t290 _ _ t291 false _ ?side1 ?side2 A9.out).mono ?_); (case side1 => exact Kd.C_below (Kd.N_reads' HO293.out).2.2 lt_); (case side2 => exact (Kd.N_reads' HO293.out).2.1); rintro e w21 ⟨rfl, hb⟩; have n0_ := Aside0.mk (Kd.N_below (Kd.N_below HO293.out lt_) hb); have n1_ := Aside0.mk (below_step (below_at HB.out) hb); clear HO293; clear HB; have HO293 := n0_; have HB := n1_; clear n0_ n1_; (try clear hb); (try clear hb2); (try clear hk); (try clear hi)) | (go_at_call 21; (with_reducible refine (laws_alive.calls  t297 _ A16.out).mono ?_); rintro e w' ⟨rfl, ⟨nd, rfl⟩⟩))
      go_ret
      exact ⟨by first | rfl | (simp [errW_none, errW_some] <;> rfl) | (simp [*, errW_none, errW_some] <;> rfl), below_at HB.out⟩
    ·rw [if_neg c8] at H
     have c8b0 : (t294 == (-1)) = false := beq_eq_false_iff_ne.mpr c8
     have c8b1 : (t294 != (-1)) = true := bne_iff_ne.mpr c8
     obtain rfl := Option.some.inj H
     go_enter Try.func5, Try.ntmps5
     go_wp2_with (first | ((with_reducible refine gate_callee (f := 19) rfl ?_); refine goesL_ (some 15) rfl rfl Try.func19 (by kernel_rfl) rfl #[.slice A0 l0.length c0] rfl (by (try simp only [List.map_toArray, List.map_cons, List.map_nil]); first | done | rfl | (simp only [List.length_drop, List.length_take]; rfl)) ?_; (with_reducible refine (spec_DrawFewestSpies.calls k _ _ l0 t290 t291 _ ?side1 ?side2 A3.out).mono ?_); (case side1 => exact Kd.C_below HR0.out lt_); (case side2 => exact HC0.out); rintro e w22 ⟨v292, rfl, ho0, hb⟩; refine ⟨_, rfl, ?_⟩; have n0_ := Aside0.mk (Kd.N_lower (Kd.N_mono (ok' := fun k_ => True) (Kd.S_N (Kd.S_bound ho0)) (fun k_ hk_ => trivial)) (below_size (below_at HB.out))); have n1_ := Aside0.mk (below_step (below_at HB.out) hb); clear HB; have HO293 := n0_; have HB := n1_; clear n0_ n1_; (try clear hb); (try clear hb2); (try clear hk); (try clear hi); (try clear ho0); obtain ⟨Ao23, co23, eo23⟩ := Kd.N_slice HO293.out; subst eo23) | ((with_reducible refine gate_callee (f := 18) rfl ?_); refine goesL_ (some 20) rfl rfl Try.func18 (by kernel_rfl) rfl #[.int .i64 t290, .slice Ao23 t291.length co23] rfl (by (try simp only [List.map_toArray, List.map_cons, List.map_nil]); first | done | rfl | (simp only [List.length_drop, List.length_take]; rfl)) ?_; (with_reducible refine (impl_FewestSpies.calls k t290 _ _ t291 t294 _ ?side1 ?side2 A4.out).mono ?_); (case side1 => exact Kd.C_below (Kd.N_reads' HO293.out).2.2 lt_); (case side2 => exact (Kd.N_reads' HO293.out).2.1); rintro e w24 ⟨rfl, hb⟩; refine ⟨_, rfl, ?_⟩; have n0_ := Aside0.mk (Kd.N_below (Kd.N_below HO293.out lt_) hb); have n1_ := Aside0.mk (below_step (below_at HB.out) hb); clear HO293; clear HB; have HO293 := n0_; have HB := n1_; clear n0_ n1_; (try clear hb); (try clear hb2); (try clear hk); (try clear hi)) | ((with_reducible refine gate_callee (f := 17) rfl ?_); refine goesL_ (some 24) rfl rfl Try.func17 (by kernel_rfl) rfl #[.int .i64 t290, .slice Ao23 t291.length co23] rfl (by (try simp only [List.map_toArray, List.map_cons, List.map_nil]); first | done | rfl | (simp only [List.length_drop, List.length_take]; rfl)) ?_; (with_reducible refine (spec_FewestSpies.calls k t290 _ _ t291 t295 _ ?side1 ?side2 A5.out).mono ?_); (case side1 => exact Kd.C_below (Kd.N_reads' HO293.out).2.2 lt_); (case side2 => exact (Kd.N_reads' HO293.out).2.1); rintro e w25 ⟨rfl, hb⟩; refine ⟨_, rfl, ?_⟩; have n0_ := Aside0.mk (Kd.N_below (Kd.N_below HO293.out lt_) hb); have n1_ := Aside0.mk (below_step (below_at HB.out) hb); clear HO293; clear HB; have HO293 := n0_; have HB := n1_; clear n0_ n1_; (try clear hb); (try clear hb2); (try clear hk); (try clear hi)))
     go_ret
     exact ⟨by first | rfl | (simp [errW_none, errW_some] <;> rfl) | (simp [*, errW_none, errW_some] <;> rfl), below_at HB.out⟩
   ·rw [if_neg c7] at H
    have c7b0 : decide (t294 < 0) = false := decide_eq_false c7
    clear c7
    have H' := Aside0.mk H
    clear H
    go_enter Try.func5, Try.ntmps5
    go_wp2_with (first | ((with_reducible refine gate_callee (f := 19) rfl ?_); refine goesL_ (some 15) rfl rfl Try.func19 (by kernel_rfl) rfl #[.slice A0 l0.length c0] rfl (by (try simp only [List.map_toArray, List.map_cons, List.map_nil]); first | done | rfl | (simp only [List.length_drop, List.length_take]; rfl)) ?_; (with_reducible refine (spec_DrawFewestSpies.calls k _ _ l0 t290 t291 _ ?side1 ?side2 A3.out).mono ?_); (case side1 => exact Kd.C_below HR0.out lt_); (case side2 => exact HC0.out); rintro e w26 ⟨v292, rfl, ho0, hb⟩; refine ⟨_, rfl, ?_⟩; have n0_ := Aside0.mk (Kd.N_lower (Kd.N_mono (ok' := fun k_ => True) (Kd.S_N (Kd.S_bound ho0)) (fun k_ hk_ => trivial)) (below_size (below_at HB.out))); have n1_ := Aside0.mk (below_step (below_at HB.out) hb); clear HB; have HO293 := n0_; have HB := n1_; clear n0_ n1_; (try clear hb); (try clear hb2); (try clear hk); (try clear hi); (try clear ho0); obtain ⟨Ao27, co27, eo27⟩ := Kd.N_slice HO293.out; subst eo27) | ((with_reducible refine gate_callee (f := 18) rfl ?_); refine goesL_ (some 20) rfl rfl Try.func18 (by kernel_rfl) rfl #[.int .i64 t290, .slice Ao27 t291.length co27] rfl (by (try simp only [List.map_toArray, List.map_cons, List.map_nil]); first | done | rfl | (simp only [List.length_drop, List.length_take]; rfl)) ?_; (with_reducible refine (impl_FewestSpies.calls k t290 _ _ t291 t294 _ ?side1 ?side2 A4.out).mono ?_); (case side1 => exact Kd.C_below (Kd.N_reads' HO293.out).2.2 lt_); (case side2 => exact (Kd.N_reads' HO293.out).2.1); rintro e w28 ⟨rfl, hb⟩; refine ⟨_, rfl, ?_⟩; have n0_ := Aside0.mk (Kd.N_below (Kd.N_below HO293.out lt_) hb); have n1_ := Aside0.mk (below_step (below_at HB.out) hb); clear HO293; clear HB; have HO293 := n0_; have HB := n1_; clear n0_ n1_; (try clear hb); (try clear hb2); (try clear hk); (try clear hi)) | ((with_reducible refine gate_callee (f := 17) rfl ?_); refine goesL_ (some 24) rfl rfl Try.func17 (by kernel_rfl) rfl #[.int .i64 t290, .slice Ao27 t291.length co27] rfl (by (try simp only [List.map_toArray, List.map_cons, List.map_nil]); first | done | rfl | (simp only [List.length_drop, List.length_take]; rfl)) ?_; (with_reducible refine (spec_FewestSpies.calls k t290 _ _ t291 t295 _ ?side1 ?side2 A5.out).mono ?_); (case side1 => exact Kd.C_below (Kd.N_reads' HO293.out).2.2 lt_); (case side2 => exact (Kd.N_reads' HO293.out).2.1); rintro e w29 ⟨rfl, hb⟩; refine ⟨_, rfl, ?_⟩; have n0_ := Aside0.mk (Kd.N_below (Kd.N_below HO293.out lt_) hb); have n1_ := Aside0.mk (below_step (below_at HB.out) hb); clear HO293; clear HB; have HO293 := n0_; have HB := n1_; clear n0_ n1_; (try clear hb); (try clear hb2); (try clear hk); (try clear hi)))
    go_loopg [6, 7] k (fun kq v6 v7 w' => ∃ (x6_1 : Int) (x7_1 : Int), v6 = .int .i64 x6_1 ∧ v7 = .int .i64 x7_1 ∧ Aside0 (laws_FnFewestSpies.l0 kq t290 t291 t294 x6_1 x7_1 = some r) ∧ Aside0 (kq ≤ k) ∧ Aside0 (Kd.N k38 38 w' w.heap.size (fun _ => True) (.slice Ao27 t291.length co27) t291) ∧ Aside0 (Below w.heap.size w w'))
    case atStart => exact ⟨(0), (0), (by first | rfl | (simp; done) | (simp [*]; done)), (by first | rfl | (simp; done) | (simp [*]; done)), H', ⟨Nat.le_refl _⟩, ⟨Kd.N_below HO293.out lt_⟩, ⟨below_at HB.out⟩⟩
    case round =>
     clear H'
     try clear c1
     try clear c2
     try clear c2b0
     try clear c2b1
     try clear p2
     try clear c5
     try clear c6
     try clear c6b0
     try clear c6b1
     try clear c7
     try clear c7b0
     try clear c8
     try clear c8b0
     try clear c8b1
     try clear c10
     try clear c17
     try clear c18
     try clear c19
     obtain ⟨x6_1, x7_1, rfl, rfl, HA, HK1, HO_4, HB⟩ := hrel
     cases gk with
     | zero => exact absurd HA.out (by simp [laws_FnFewestSpies.l0])
     | succ k1 =>
      have H := HA.out
      clear HA
      simp only [laws_FnFewestSpies.l0] at H
      by_cases c30 : x7_1 < t290
      ·rw [if_pos c30] at H
       have c30b0 : decide (x7_1 < t290) = true := decide_eq_true c30
       clear c30
       have H' := Aside0.mk H
       clear H
       go_wp2
       go_loopg [6, 8] k1 (fun kq v6 v8 w' => ∃ (x6_2 : Int) (x8_2 : Int), v6 = .int .i64 x6_2 ∧ v8 = .int .i64 x8_2 ∧ Aside0 (laws_FnFewestSpies.l1 kq t290 t291 t294 x6_2 x7_1 x8_2 = some r) ∧ Aside0 (kq ≤ k1) ∧ Aside0 (Kd.N k38 38 w' w.heap.size (fun _ => True) (.slice Ao27 t291.length co27) t291) ∧ Aside0 (Below w.heap.size w w'))
       case atStart => exact ⟨(x6_1), (0), (by first | rfl | (simp; done) | (simp [*]; done)), (by first | rfl | (simp; done) | (simp [*]; done)), H', ⟨Nat.le_refl _⟩, ⟨Kd.N_below HO_4.out lt_⟩, ⟨below_at HB.out⟩⟩
       case round =>
        clear H'
        try clear c1
        try clear c2
        try clear c2b0
        try clear c2b1
        try clear p2
        try clear c3
        try clear c5
        try clear c6
        try clear c6b0
        try clear c6b1
        try clear c7
        try clear c7b0
        try clear c8
        try clear c8b0
        try clear c8b1
        try clear c10
        try clear c17
        try clear c18
        try clear c19
        try clear c30
        try clear c30b0
        try clear p2
        obtain ⟨x6_2, x8_2, rfl, rfl, HA, HK2, HO_4, HB⟩ := hrel
        cases gk with
        | zero => exact absurd HA.out (by simp [laws_FnFewestSpies.l1])
        | succ k2 =>
         have H := HA.out
         clear HA
         simp only [laws_FnFewestSpies.l1] at H
         by_cases c31 : x8_2 < (t291.length : Int)
         ·rw [if_pos c31] at H
          have c31b0 : decide (x8_2 < (t291.length : Int)) = true := decide_eq_true c31
          clear c31
          by_cases c32 : 0 ≤ x8_2
          ·rw [if_pos c32] at H
           have c32b0 : decide (0 ≤ x8_2) = true := decide_eq_true c32
           clear c32
           by_cases c33 : ((rd_T38 t291 x8_2).f0) = x7_1
           ·rw [if_pos c33] at H
            have c33b0 : (((rd_T38 t291 x8_2).f0) == x7_1) = true := beq_iff_eq.mpr c33
            have c33b1 : (((rd_T38 t291 x8_2).f0) != x7_1) = false := bne_eq_false_iff_eq.mpr c33
            clear c33
            have H' := Aside0.mk H
            clear H
            have p298 : 0 ≤ (x8_2 : Int) := of_decide_eq_true (by first | (with_reducible assumption) | assumption)
            have q298 : x8_2 < (t291.length : Int) := of_decide_eq_true (by first | (with_reducible assumption) | assumption)
            obtain ⟨ad298, A298_1, c298_1, e298, hx298_0, hx298_1, hl298_1, hi298_1⟩ := at_T38 (Kd.N_reads' HO_4.out).2.2 x8_2 p298 q298
            cases e298
            obtain ⟨ce298, hce298, hMe298, hcc298⟩ := Kd.N_get HO_4.out z38 x8_2 p298 (by first | exact q298 | exact of_decide_eq_true (by first | (with_reducible assumption) | assumption) | (have e_ := (Kd.N_reads' HO_4.out).1; omega))
            obtain ⟨ua298_1, uc298_1, rfl, ul298_1, ge298_1⟩ := k38_openF hMe298
            have hv298_1 := hcc298 1 _ rfl
            rw [add_field _ _ 1 (by omega)] at hv298_1
            replace hv298_1 := Option.some.inj (hv298_1.symm.trans hx298_1)
            injection hv298_1 with hva_ hvn_ hvc_
            rw [hva_] at ge298_1
            rw [hvc_] at ul298_1
            have HL298_1 := Aside0.mk (show Kd.V k47 47 _ w.heap.size _ _ ((rd_T38 t291 x8_2).f1) from Kd.V_mk ul298_1 ge298_1)
            clear hva_ hvn_ hvc_ ge298_1 ul298_1
            clear hcc298 hce298
            have HR298_1 := Aside0.mk hi298_1
            have HC298_1 := Aside0.mk hl298_1
            clear hi298_1 hl298_1
            replace p298 := eq_true p298
            replace q298 := eq_true q298
            go_wp2
            go_roundg k2
            case measure => have := HK1.out; have := HK2.out; omega
            case rel => exact ⟨(wrap64 (x6_2 + 1)), (wrap64 (x7_1 + 1)), (by first | rfl | (simp; done) | (simp [*]; done)), (by first | rfl | (simp; done) | (simp [*]; done)), H', ⟨by have := HK1.out; have := HK2.out; omega⟩, ⟨Kd.N_below HO_4.out lt_⟩, ⟨below_at HB.out⟩⟩
           ·rw [if_neg c33] at H
            have c33b0 : (((rd_T38 t291 x8_2).f0) == x7_1) = false := beq_eq_false_iff_ne.mpr c33
            have c33b1 : (((rd_T38 t291 x8_2).f0) != x7_1) = true := bne_iff_ne.mpr c33
            have H' := Aside0.mk H
            clear H
            have p298 : 0 ≤ (x8_2 : Int) := of_decide_eq_true (by first | (with_reducible assumption) | assumption)
            have q298 : x8_2 < (t291.length : Int) := of_decide_eq_true (by first | (with_reducible assumption) | assumption)
            obtain ⟨ad298, A298_1, c298_1, e298, hx298_0, hx298_1, hl298_1, hi298_1⟩ := at_T38 (Kd.N_reads' HO_4.out).2.2 x8_2 p298 q298
            cases e298
            obtain ⟨ce298, hce298, hMe298, hcc298⟩ := Kd.N_get HO_4.out z38 x8_2 p298 (by first | exact q298 | exact of_decide_eq_true (by first | (with_reducible assumption) | assumption) | (have e_ := (Kd.N_reads' HO_4.out).1; omega))
            obtain ⟨ua298_1, uc298_1, rfl, ul298_1, ge298_1⟩ := k38_openF hMe298
            have hv298_1 := hcc298 1 _ rfl
            rw [add_field _ _ 1 (by omega)] at hv298_1
            replace hv298_1 := Option.some.inj (hv298_1.symm.trans hx298_1)
            injection hv298_1 with hva_ hvn_ hvc_
            rw [hva_] at ge298_1
            rw [hvc_] at ul298_1
            have HL298_1 := Aside0.mk (show Kd.V k47 47 _ w.heap.size _ _ ((rd_T38 t291 x8_2).f1) from Kd.V_mk ul298_1 ge298_1)
            clear hva_ hvn_ hvc_ ge298_1 ul298_1
            clear hcc298 hce298
            have HR298_1 := Aside0.mk hi298_1
            have HC298_1 := Aside0.mk hl298_1
            clear hi298_1 hl298_1
            replace p298 := eq_true p298
            replace q298 := eq_true q298
            go_wp2
            go_roundg k2
            case measure => have := HK1.out; have := HK2.out; omega
            case rel => exact ⟨(x6_2), (wrap64 (x8_2 + 1)), (by first | rfl | (simp; done) | (simp [*]; done)), (by first | rfl | (simp; done) | (simp [*]; done)), H', ⟨by have := HK1.out; have := HK2.out; omega⟩, ⟨Kd.N_below HO_4.out lt_⟩, ⟨below_at HB.out⟩⟩
          ·rw [if_neg c32] at H
           exact absurd H (by simp)
         ·rw [if_neg c31] at H
          have c31b0 : decide (x8_2 < (t291.length : Int)) = false := decide_eq_false c31
          clear c31
          have H' := Aside0.mk H
          clear H
          go_wp2
          go_roundg k2
          case measure => have := HK1.out; have := HK2.out; omega
          case rel => exact ⟨(x6_2), (wrap64 (x7_1 + 1)), (by first | rfl | (simp; done) | (simp [*]; done)), (by first | rfl | (simp; done) | (simp [*]; done)), H', ⟨by have := HK1.out; have := HK2.out; omega⟩, ⟨Kd.N_below HO_4.out lt_⟩, ⟨below_at HB.out⟩⟩
      ·rw [if_neg c30] at H
       have c30b0 : decide (x7_1 < t290) = false := decide_eq_false c30
       clear c30
       obtain ⟨y299, hy299⟩ : ∃ y_ : List (S38), y_ = (([] : List (S38))) := ⟨_, rfl⟩
       replace H : (if y299.length + t291.length < 4398046511104 then ((some (y299 ++ t291 : List (S38))).bind fun y302 => (if (y302.length : Int) > 0 then ((some (([] : List (S38)) : List (S38))).bind fun y305 => (if 0 ≤ (wrap64 ((t291.length : Int) - 1)) then (if (wrap64 ((t291.length : Int) - 1)) ≤ (t291.length : Int) then ((some (t291.take ((wrap64 ((t291.length : Int) - 1)) : Int).toNat : List (S38))).bind fun y308 => (if y305.length + y308.length < 4398046511104 then ((impl_ClashOk.f k1 t290 t291).bind fun t316 => (if ((t294 == 0) == (!t316)) = true then (if t294 ≤ x6_1 then ((impl_FewestSpies.f k1 t290 (y305 ++ y308)).bind fun t317 => (some (decide (t317 ≤ t294)))) else (some false)) else (some false))) else (none))) else (none)) else (none))) else ((impl_ClashOk.f k1 t290 t291).bind fun t318 => (if ((t294 == 0) == (!t318)) = true then (if t294 ≤ x6_1 then ((impl_FewestSpies.f k1 t290 y302).bind fun t319 => (some (decide (t319 ≤ t294)))) else (some false)) else (some false))))) else (none)) = some r := by first | (rw [hy299]; exact H) | exact H
       have Ny299 := Aside0.mk hy299
       clear hy299
       by_cases c34 : y299.length + t291.length < 4398046511104
       ·rw [if_pos c34] at H
        have LMc34 := Aside0.mk c34
        clear c34
        obtain ⟨y302, hy302⟩ : ∃ y_ : List (S38), y_ = (y299 ++ t291) := ⟨_, rfl⟩
        replace H : (if (y302.length : Int) > 0 then ((some (([] : List (S38)) : List (S38))).bind fun y305 => (if 0 ≤ (wrap64 ((t291.length : Int) - 1)) then (if (wrap64 ((t291.length : Int) - 1)) ≤ (t291.length : Int) then ((some (t291.take ((wrap64 ((t291.length : Int) - 1)) : Int).toNat : List (S38))).bind fun y308 => (if y305.length + y308.length < 4398046511104 then ((impl_ClashOk.f k1 t290 t291).bind fun t316 => (if ((t294 == 0) == (!t316)) = true then (if t294 ≤ x6_1 then ((impl_FewestSpies.f k1 t290 (y305 ++ y308)).bind fun t317 => (some (decide (t317 ≤ t294)))) else (some false)) else (some false))) else (none))) else (none)) else (none))) else ((impl_ClashOk.f k1 t290 t291).bind fun t318 => (if ((t294 == 0) == (!t318)) = true then (if t294 ≤ x6_1 then ((impl_FewestSpies.f k1 t290 y302).bind fun t319 => (some (decide (t319 ≤ t294)))) else (some false)) else (some false)))) = some r := by first | (rw [hy302]; exact H) | exact H
        have Ny302 := Aside0.mk hy302
        clear hy302
        by_cases c35 : (y302.length : Int) > 0
        ·rw [if_pos c35] at H
         have c35b0 : decide (0 < (y302.length : Int)) = true := decide_eq_true c35
         have c35b1 : decide (0 < y302.length) = true := decide_eq_true (by omega)
         clear c35
         obtain ⟨y305, hy305⟩ : ∃ y_ : List (S38), y_ = (([] : List (S38))) := ⟨_, rfl⟩
         replace H : (if 0 ≤ (wrap64 ((t291.length : Int) - 1)) then (if (wrap64 ((t291.length : Int) - 1)) ≤ (t291.length : Int) then ((some (t291.take ((wrap64 ((t291.length : Int) - 1)) : Int).toNat : List (S38))).bind fun y308 => (if y305.length + y308.length < 4398046511104 then ((impl_ClashOk.f k1 t290 t291).bind fun t316 => (if ((t294 == 0) == (!t316)) = true then (if t294 ≤ x6_1 then ((impl_FewestSpies.f k1 t290 (y305 ++ y308)).bind fun t317 => (some (decide (t317 ≤ t294)))) else (some false)) else (some false))) else (none))) else (none)) else (none)) = some r := by first | (rw [hy305]; exact H) | exact H
         have Ny305 := Aside0.mk hy305
         clear hy305
         obtain ⟨ji36, hji36⟩ : ∃ j_ : Int, (wrap64 ((t291.length : Int) - 1)) = j_ := ⟨_, rfl⟩
         replace H : (if 0 ≤ (ji36) then (if (ji36) ≤ (t291.length : Int) then ((some (t291.take ((ji36) : Int).toNat : List (S38))).bind fun y308 => (if y305.length + y308.length < 4398046511104 then ((impl_ClashOk.f k1 t290 t291).bind fun t316 => (if ((t294 == 0) == (!t316)) = true then (if t294 ≤ x6_1 then ((impl_FewestSpies.f k1 t290 (y305 ++ y308)).bind fun t317 => (some (decide (t317 ≤ t294)))) else (some false)) else (some false))) else (none))) else (none)) else (none)) = some r := by first | (rw [hji36] at H; exact H) | (simp only [hji36] at H ⊢; exact H)
         have hji36w : (IntKind.i64.wrap ((t291.length : Int) - 1)) = ji36 := (i64_w _).trans hji36
         by_cases c37 : 0 ≤ (ji36)
         ·rw [if_pos c37] at H
          have c37b0 := eq_true c37
          have c37b1 : decide (0 ≤ (ji36)) = true := decide_eq_true c37
          clear c37
          by_cases c38 : (ji36) ≤ (t291.length : Int)
          ·rw [if_pos c38] at H
           have c38b0 := eq_true c38
           have c38b1 : decide ((ji36) ≤ (t291.length : Int)) = true := decide_eq_true c38
           clear c38
           obtain ⟨y308, hy308⟩ : ∃ y_ : List (S38), y_ = (t291.take ((ji36) : Int).toNat) := ⟨_, rfl⟩
           replace H : (if y305.length + y308.length < 4398046511104 then ((impl_ClashOk.f k1 t290 t291).bind fun t316 => (if ((t294 == 0) == (!t316)) = true then (if t294 ≤ x6_1 then ((impl_FewestSpies.f k1 t290 (y305 ++ y308)).bind fun t317 => (some (decide (t317 ≤ t294)))) else (some false)) else (some false))) else (none)) = some r := by first | (rw [hy308]; exact H) | exact H
           have Ny308 := Aside0.mk hy308
           clear hy308
           by_cases c39 : y305.length + y308.length < 4398046511104
           ·rw [if_pos c39] at H
            have LMc39 := Aside0.mk c39
            clear c39
            obtain ⟨y313, hy313⟩ : ∃ y_ : List (S38), y_ = (y305 ++ y308) := ⟨_, rfl⟩
            replace H : ((impl_ClashOk.f k1 t290 t291).bind fun t316 => (if ((t294 == 0) == (!t316)) = true then (if t294 ≤ x6_1 then ((impl_FewestSpies.f k1 t290 y313).bind fun t317 => (some (decide (t317 ≤ t294)))) else (some false)) else (some false))) = some r := by first | (rw [hy313]; exact H) | exact H
            have Ny313 := Aside0.mk hy313
            clear hy313
            replace H := Option.bind_eq_some_iff.mp H
            obtain ⟨t316, A400, H⟩ := H
            try dsimp only at H
            have A40 := Aside0.mk A400
            clear A400
            by_cases c41 : ((t294 == 0) == (!t316)) = true
            ·rw [if_pos c41] at H
             have c41b0 : ((t294 == 0) == (!t316)) = true := c41
             (try (have c41b1 : decide ((t294 == 0) = (!t316)) = true := by simpa using c41))
             (try (have c41b2 : ((t294 == 0) == (!t316)) = true := by simpa using c41))
             clear c41
             by_cases c42 : t294 ≤ x6_1
             ·rw [if_pos c42] at H
              have c42b0 : decide (t294 ≤ x6_1) = true := decide_eq_true c42
              clear c42
              replace H := Option.bind_eq_some_iff.mp H
              obtain ⟨t317, A430, H⟩ := H
              try dsimp only at H
              have A43 := Aside0.mk A430
              clear A430
              obtain rfl := Option.some.inj H
              go_wp2_with (first | ((with_reducible refine gate_dst (N := 59) rfl ?_); refine Kd.N_lit k38 _ 38 ?hg (N' := 59) ?hd (xs := ([] : List (S38))) (inner := []) (ok := (fun k_ => some k_ ≠ (.slice Ao27 t291.length co27 : Value).ownBlock)) (okp := (fun k_ => some k_ ≠ (.slice Ao27 t291.length co27 : Value).ownBlock)) ?hr ?hp (fun _ hk => hk) ((show ∀ k_, wr.heap.size ≤ k_ → (fun k_ => some k_ ≠ (.slice Ao27 t291.length co27 : Value).ownBlock) k_ from fun k_ hk => Kd.fresh' (Kd.N_lt (Kd.N_below HO_4.out lt_)) k_ hk) _ (Nat.le_refl _)) (Below.refl _ _) (Nat.le_refl _) (by simp) ?_; (case hd => rfl); (case hg => rfl); (case hr => first | (go_simp; done) | (go_simp; rfl)); (case hp => exact (Reps.none _ _)); intro v300 w44 ho45 hb hg_ hnew_; clear hg_ hnew_; (first | rw [← Ny299.out] at ho45 | (simp only [Int.reduceToNat] at ho45; rw [← Ny299.out] at ho45)); have n0_ := Aside0.mk (Kd.N_elder' (Kd.N_below HO_4.out lt_) (Kd.N_base ho45) hb); have n1_ := Aside0.mk (Kd.N_lower ho45 (below_size (below_at HB.out))); have n2_ := Aside0.mk (below_step (below_at HB.out) hb); clear HO_4; clear HB; have HO_4 := n0_; have HO301 := n1_; have HB := n2_; clear n0_ n1_ n2_; clear hb ho45) | ((with_reducible refine gate_builtin (b := .append) (xs := #[.tmp 59, .tmp 60]) rfl ?_); at_builtin; refine Kd.N_append_rows k38 (w0 := w) w.heap.size rfl (.tmp 59) (.tmp 60) 25 38 (.agg #[(.int .i64 0), (.slice none 0 0)]) 32 rfl Try.underlying25 info38 rfl (by decide) (by omega) v300 y299 t291 _ _ _ (fun _ => True) (fun k_ => ((fun _ => True)) k_ ∧ some k_ ≠ (v300 : Value).ownBlock) rfl rfl ?aO ?aR (fun _ hk => hk) ?aF ?aB ?aS ?aL ?_; (case aR => exact (by skip; exact Kd.N_F (Kd.N_mono (ok' := (fun k_ => ((fun _ => True)) k_ ∧ some k_ ≠ (v300 : Value).ownBlock)) (HO_4.out) (fun k_ hk => ⟨trivial, hk.2⟩)))); (case aB => exact (below_at HB.out)); (case aF => exact (fun _ _ => trivial)); (case aO => exact (Kd.N_below (Kd.N_mono HO301.out (fun _ hk => trivial)) lt_)); (case aS => exact (below_size (below_at HB.out))); (case aL => have := LMc34.out; omega); intro v303 w46 ho hb hg hat; rw [← Ny302.out] at ho; have n0_ := Aside0.mk (Kd.N_afterv (ok := (fun _ => True)) (Kd.N_below HO_4.out lt_) hg hat); have n1_ := Aside0.mk (hb); have n2_ := Aside0.mk (ho); clear HO_4; clear HB; clear HO301; have HO_4 := n0_; have HB := n1_; have HO304 := n2_; clear n0_ n1_ n2_; clear ho hb hg hat; obtain ⟨Ao47, co47, eo47⟩ := Kd.N_slice HO304.out; subst eo47) | ((with_reducible refine gate_dst (N := 65) rfl ?_); refine Kd.N_lit k38 _ 38 ?hg (N' := 65) ?hd (xs := ([] : List (S38))) (inner := []) (ok := (fun k_ => some k_ ≠ (.slice Ao27 t291.length co27 : Value).ownBlock ∧ some k_ ≠ (.slice Ao47 y302.length co47 : Value).ownBlock)) (okp := (fun k_ => some k_ ≠ (.slice Ao27 t291.length co27 : Value).ownBlock ∧ some k_ ≠ (.slice Ao47 y302.length co47 : Value).ownBlock)) ?hr ?hp (fun _ hk => hk) ((show ∀ k_, w46.heap.size ≤ k_ → (fun k_ => some k_ ≠ (.slice Ao27 t291.length co27 : Value).ownBlock ∧ some k_ ≠ (.slice Ao47 y302.length co47 : Value).ownBlock) k_ from fun k_ hk => ⟨Kd.fresh' (Kd.N_lt (Kd.N_below HO_4.out lt_)) k_ hk, Kd.fresh' (Kd.N_lt (Kd.N_below HO304.out lt_)) k_ hk⟩) _ (Nat.le_refl _)) (Below.refl _ _) (Nat.le_refl _) (by simp) ?_; (case hd => rfl); (case hg => rfl); (case hr => first | (go_simp; done) | (go_simp; rfl)); (case hp => exact (Reps.none _ _)); intro v306 w48 ho49 hb hg_ hnew_; clear hg_ hnew_; (first | rw [← Ny305.out] at ho49 | (simp only [Int.reduceToNat] at ho49; rw [← Ny305.out] at ho49)); have n0_ := Aside0.mk (Kd.N_elder' (Kd.N_below HO_4.out lt_) (Kd.N_base ho49) hb); have n1_ := Aside0.mk (Kd.N_elder' (Kd.N_below HO304.out lt_) (Kd.N_base ho49) hb); have n2_ := Aside0.mk (Kd.N_lower ho49 (below_size (below_at HB.out))); have n3_ := Aside0.mk (below_step (below_at HB.out) hb); clear HO_4; clear HO304; clear HB; have HO_4 := n0_; have HO304 := n1_; have HO307 := n2_; have HB := n3_; clear n0_ n1_ n2_ n3_; clear hb ho49; have q50 : ((ji36) : Int) ≤ ((t291.length : Int) : Int) := of_decide_eq_true (by first | (with_reducible assumption) | assumption); obtain ⟨i050, hi050, _, hsz50, _⟩ := info_parts info38; have hroom50 : t291.length ≤ co27 := (Kd.N_reads' HO_4.out).2.1; have hC50 : Kd.F k38 _ _ Ao27 t291.length t291 := (Kd.V_at (base := w.heap.size) (Kd.N_V HO_4.out)).2.2; have hcut50 := cut_to (P := Try.prog) 25 38 .i64 Try.underlying25 hi050 Ao27 t291.length co27 (ji36) (of_decide_eq_true (by first | (with_reducible assumption) | assumption)) q50 hroom50; have hr50 := Kd.F_take (m := ((ji36) : Int).toNat) hC50 (by omega); have hy50 : y308.length = ((ji36) : Int).toNat := (by rw [Ny308.out, List.length_take]; omega); rw [← Ny308.out] at hr50; rw [← hy50] at hcut50; have HO312 := Aside0.mk (show Kd.V k38 38 _ w.heap.size _ (.slice Ao27 y308.length co27) y308 from Kd.V_mk (by omega) hr50); have HC312 := Aside0.mk (show y308.length ≤ co27 from by omega); clear hr50 hC50 hroom50 hi050 hsz50; have KY50 := Aside0.mk hy50; clear hy50; replace q50 := eq_true q50) | ((with_reducible refine gate_builtin (b := .append) (xs := #[.tmp 65, .tmp 70]) rfl ?_); at_builtin; refine Kd.N_append_rows k38 (w0 := w) w.heap.size rfl (.tmp 65) (.tmp 70) 25 38 (.agg #[(.int .i64 0), (.slice none 0 0)]) 32 rfl Try.underlying25 info38 rfl (by decide) (by omega) v306 y305 y308 _ _ _ (fun k_ => some k_ ≠ (.slice Ao47 y302.length co47 : Value).ownBlock) (fun k_ => ((fun k_ => some k_ ≠ (.slice Ao47 y302.length co47 : Value).ownBlock)) k_ ∧ some k_ ≠ (v306 : Value).ownBlock) rfl rfl ?aO ?aR (fun _ hk => hk) ?aF ?aB ?aS ?aL ?_; (case aR => exact (by skip; exact Kd.V_F (Kd.V_mono (ok' := (fun k_ => ((fun k_ => some k_ ≠ (.slice Ao47 y302.length co47 : Value).ownBlock)) k_ ∧ some k_ ≠ (v306 : Value).ownBlock)) (HO312.out) (fun k_ hk => ⟨hk.1.2, hk.2⟩)))); (case aB => exact (below_at HB.out)); (case aF => exact (fun k_ hk => Kd.fresh' (Kd.N_lt (Kd.N_below HO304.out lt_)) k_ hk)); (case aO => exact (Kd.N_below (Kd.N_mono HO307.out (fun _ hk => hk.2)) lt_)); (case aS => exact (below_size (below_at HB.out))); (case aL => have := LMc39.out; omega); intro v314 w51 ho hb hg hat; rw [← Ny313.out] at ho; have n0_ := Aside0.mk (Kd.N_afterv (ok := (fun k_ => some k_ ≠ (.slice Ao47 y302.length co47 : Value).ownBlock)) (Kd.N_below (Kd.N_mono HO_4.out (fun _ hk => ⟨hk.1.2, hk.2⟩)) lt_) hg hat); have n1_ := Aside0.mk (Kd.N_afterv (ok := (fun _ => True)) (Kd.N_below HO304.out lt_) hg hat); have n2_ := Aside0.mk (Kd.V_afterv (ok := (fun k_ => some k_ ≠ (.slice Ao47 y302.length co47 : Value).ownBlock)) (Kd.V_belowL (Kd.V_mono HO312.out (fun _ hk => ⟨hk.1.2, hk.2⟩)) lt_) hg hat); have n3_ := Aside0.mk (hb); have n4_ := Aside0.mk (ho); clear HO_4; clear HO304; clear HO312; clear HB; clear HO307; have HO_4 := n0_; have HO304 := n1_; have HO312 := n2_; have HB := n3_; have HO315 := n4_; clear n0_ n1_ n2_ n3_ n4_; clear ho hb hg hat) | ((with_reducible refine gate_callee (f := 22) rfl ?_); refine goesL_ (some 76) rfl rfl Try.func22 (by kernel_rfl) rfl #[.int .i64 t290, .slice Ao27 t291.length co27] rfl (by (try simp only [List.map_toArray, List.map_cons, List.map_nil]); first | done | rfl | (simp only [List.length_drop, List.length_take]; rfl)) ?_; (with_reducible refine (impl_ClashOk.calls k1 t290 _ _ t291 t316 _ ?side1 ?side2 A40.out).mono ?_); (case side1 => exact Kd.C_below (Kd.N_reads' HO_4.out).2.2 lt_); (case side2 => exact (Kd.N_reads' HO_4.out).2.1); rintro e w52 ⟨rfl, hb⟩; refine ⟨_, rfl, ?_⟩; have n0_ := Aside0.mk (Kd.N_below (Kd.N_below HO_4.out lt_) hb); have n1_ := Aside0.mk (Kd.N_below (Kd.N_below HO304.out lt_) hb); have n2_ := Aside0.mk (Kd.V_below (Kd.V_belowL HO312.out lt_) hb); have n3_ := Aside0.mk (Kd.N_below (Kd.N_below HO315.out lt_) hb); have n4_ := Aside0.mk (below_step (below_at HB.out) hb); clear HO_4; clear HO304; clear HO312; clear HO315; clear HB; have HO_4 := n0_; have HO304 := n1_; have HO312 := n2_; have HO315 := n3_; have HB := n4_; clear n0_ n1_ n2_ n3_ n4_; (try clear hb); (try clear hb2); (try clear hk); (try clear hi); obtain ⟨Ao53, co53, eo53⟩ := Kd.N_slice HO315.out; subst eo53) | (go_at_call 18; (with_reducible refine (impl_FewestSpies.calls k1 t290 _ _ y313 t317 _ ?side1 ?side2 A43.out).mono ?_); (case side1 => exact Kd.C_below (Kd.N_reads' HO315.out).2.2 lt_); (case side2 => exact (Kd.N_reads' HO315.out).2.1); rintro e w54 ⟨rfl, hb⟩; have n0_ := Aside0.mk (Kd.N_below (Kd.N_below HO_4.out lt_) hb); have n1_ := Aside0.mk (Kd.N_below (Kd.N_below HO304.out lt_) hb); have n2_ := Aside0.mk (Kd.V_below (Kd.V_belowL HO312.out lt_) hb); have n3_ := Aside0.mk (Kd.N_below (Kd.N_below HO315.out lt_) hb); have n4_ := Aside0.mk (below_step (below_at HB.out) hb); clear HO_4; clear HO304; clear HO312; clear HO315; clear HB; have HO_4 := n0_; have HO304 := n1_; have HO312 := n2_; have HO315 := n3_; have HB := n4_; clear n0_ n1_ n2_ n3_ n4_; (try clear hb); (try clear hb2); (try clear hk); (try clear hi)))
              go_ret
              exact ⟨by first | rfl | (simp [errW_none, errW_some] <;> rfl) | (simp only [← hji36]; first | rfl | (simp [errW_none, errW_some] <;> rfl)) | (simp [*, errW_none, errW_some] <;> rfl), below_at HB.out⟩
             ·rw [if_neg c42] at H
              have c42b0 : decide (t294 ≤ x6_1) = false := decide_eq_false c42
              clear c42
              obtain rfl := Option.some.inj H
              go_wp2_with (first | ((with_reducible refine gate_dst (N := 59) rfl ?_); refine Kd.N_lit k38 _ 38 ?hg (N' := 59) ?hd (xs := ([] : List (S38))) (inner := []) (ok := (fun k_ => some k_ ≠ (.slice Ao27 t291.length co27 : Value).ownBlock)) (okp := (fun k_ => some k_ ≠ (.slice Ao27 t291.length co27 : Value).ownBlock)) ?hr ?hp (fun _ hk => hk) ((show ∀ k_, wr.heap.size ≤ k_ → (fun k_ => some k_ ≠ (.slice Ao27 t291.length co27 : Value).ownBlock) k_ from fun k_ hk => Kd.fresh' (Kd.N_lt (Kd.N_below HO_4.out lt_)) k_ hk) _ (Nat.le_refl _)) (Below.refl _ _) (Nat.le_refl _) (by simp) ?_; (case hd => rfl); (case hg => rfl); (case hr => first | (go_simp; done) | (go_simp; rfl)); (case hp => exact (Reps.none _ _)); intro v300 w55 ho56 hb hg_ hnew_; clear hg_ hnew_; (first | rw [← Ny299.out] at ho56 | (simp only [Int.reduceToNat] at ho56; rw [← Ny299.out] at ho56)); have n0_ := Aside0.mk (Kd.N_elder' (Kd.N_below HO_4.out lt_) (Kd.N_base ho56) hb); have n1_ := Aside0.mk (Kd.N_lower ho56 (below_size (below_at HB.out))); have n2_ := Aside0.mk (below_step (below_at HB.out) hb); clear HO_4; clear HB; have HO_4 := n0_; have HO301 := n1_; have HB := n2_; clear n0_ n1_ n2_; clear hb ho56) | ((with_reducible refine gate_builtin (b := .append) (xs := #[.tmp 59, .tmp 60]) rfl ?_); at_builtin; refine Kd.N_append_rows k38 (w0 := w) w.heap.size rfl (.tmp 59) (.tmp 60) 25 38 (.agg #[(.int .i64 0), (.slice none 0 0)]) 32 rfl Try.underlying25 info38 rfl (by decide) (by omega) v300 y299 t291 _ _ _ (fun _ => True) (fun k_ => ((fun _ => True)) k_ ∧ some k_ ≠ (v300 : Value).ownBlock) rfl rfl ?aO ?aR (fun _ hk => hk) ?aF ?aB ?aS ?aL ?_; (case aR => exact (by skip; exact Kd.N_F (Kd.N_mono (ok' := (fun k_ => ((fun _ => True)) k_ ∧ some k_ ≠ (v300 : Value).ownBlock)) (HO_4.out) (fun k_ hk => ⟨trivial, hk.2⟩)))); (case aB => exact (below_at HB.out)); (case aF => exact (fun _ _ => trivial)); (case aO => exact (Kd.N_below (Kd.N_mono HO301.out (fun _ hk => trivial)) lt_)); (case aS => exact (below_size (below_at HB.out))); (case aL => have := LMc34.out; omega); intro v303 w57 ho hb hg hat; rw [← Ny302.out] at ho; have n0_ := Aside0.mk (Kd.N_afterv (ok := (fun _ => True)) (Kd.N_below HO_4.out lt_) hg hat); have n1_ := Aside0.mk (hb); have n2_ := Aside0.mk (ho); clear HO_4; clear HB; clear HO301; have HO_4 := n0_; have HB := n1_; have HO304 := n2_; clear n0_ n1_ n2_; clear ho hb hg hat; obtain ⟨Ao58, co58, eo58⟩ := Kd.N_slice HO304.out; subst eo58) | ((with_reducible refine gate_dst (N := 65) rfl ?_); refine Kd.N_lit k38 _ 38 ?hg (N' := 65) ?hd (xs := ([] : List (S38))) (inner := []) (ok := (fun k_ => some k_ ≠ (.slice Ao27 t291.length co27 : Value).ownBlock ∧ some k_ ≠ (.slice Ao58 y302.length co58 : Value).ownBlock)) (okp := (fun k_ => some k_ ≠ (.slice Ao27 t291.length co27 : Value).ownBlock ∧ some k_ ≠ (.slice Ao58 y302.length co58 : Value).ownBlock)) ?hr ?hp (fun _ hk => hk) ((show ∀ k_, w57.heap.size ≤ k_ → (fun k_ => some k_ ≠ (.slice Ao27 t291.length co27 : Value).ownBlock ∧ some k_ ≠ (.slice Ao58 y302.length co58 : Value).ownBlock) k_ from fun k_ hk => ⟨Kd.fresh' (Kd.N_lt (Kd.N_below HO_4.out lt_)) k_ hk, Kd.fresh' (Kd.N_lt (Kd.N_below HO304.out lt_)) k_ hk⟩) _ (Nat.le_refl _)) (Below.refl _ _) (Nat.le_refl _) (by simp) ?_; (case hd => rfl); (case hg => rfl); (case hr => first | (go_simp; done) | (go_simp; rfl)); (case hp => exact (Reps.none _ _)); intro v306 w59 ho60 hb hg_ hnew_; clear hg_ hnew_; (first | rw [← Ny305.out] at ho60 | (simp only [Int.reduceToNat] at ho60; rw [← Ny305.out] at ho60)); have n0_ := Aside0.mk (Kd.N_elder' (Kd.N_below HO_4.out lt_) (Kd.N_base ho60) hb); have n1_ := Aside0.mk (Kd.N_elder' (Kd.N_below HO304.out lt_) (Kd.N_base ho60) hb); have n2_ := Aside0.mk (Kd.N_lower ho60 (below_size (below_at HB.out))); have n3_ := Aside0.mk (below_step (below_at HB.out) hb); clear HO_4; clear HO304; clear HB; have HO_4 := n0_; have HO304 := n1_; have HO307 := n2_; have HB := n3_; clear n0_ n1_ n2_ n3_; clear hb ho60; have q61 : ((ji36) : Int) ≤ ((t291.length : Int) : Int) := of_decide_eq_true (by first | (with_reducible assumption) | assumption); obtain ⟨i061, hi061, _, hsz61, _⟩ := info_parts info38; have hroom61 : t291.length ≤ co27 := (Kd.N_reads' HO_4.out).2.1; have hC61 : Kd.F k38 _ _ Ao27 t291.length t291 := (Kd.V_at (base := w.heap.size) (Kd.N_V HO_4.out)).2.2; have hcut61 := cut_to (P := Try.prog) 25 38 .i64 Try.underlying25 hi061 Ao27 t291.length co27 (ji36) (of_decide_eq_true (by first | (with_reducible assumption) | assumption)) q61 hroom61; have hr61 := Kd.F_take (m := ((ji36) : Int).toNat) hC61 (by omega); have hy61 : y308.length = ((ji36) : Int).toNat := (by rw [Ny308.out, List.length_take]; omega); rw [← Ny308.out] at hr61; rw [← hy61] at hcut61; have HO312 := Aside0.mk (show Kd.V k38 38 _ w.heap.size _ (.slice Ao27 y308.length co27) y308 from Kd.V_mk (by omega) hr61); have HC312 := Aside0.mk (show y308.length ≤ co27 from by omega); clear hr61 hC61 hroom61 hi061 hsz61; have KY61 := Aside0.mk hy61; clear hy61; replace q61 := eq_true q61) | ((with_reducible refine gate_builtin (b := .append) (xs := #[.tmp 65, .tmp 70]) rfl ?_); at_builtin; refine Kd.N_append_rows k38 (w0 := w) w.heap.size rfl (.tmp 65) (.tmp 70) 25 38 (.agg #[(.int .i64 0), (.slice none 0 0)]) 32 rfl Try.underlying25 info38 rfl (by decide) (by omega) v306 y305 y308 _ _ _ (fun k_ => some k_ ≠ (.slice Ao58 y302.length co58 : Value).ownBlock) (fun k_ => ((fun k_ => some k_ ≠ (.slice Ao58 y302.length co58 : Value).ownBlock)) k_ ∧ some k_ ≠ (v306 : Value).ownBlock) rfl rfl ?aO ?aR (fun _ hk => hk) ?aF ?aB ?aS ?aL ?_; (case aR => exact (by skip; exact Kd.V_F (Kd.V_mono (ok' := (fun k_ => ((fun k_ => some k_ ≠ (.slice Ao58 y302.length co58 : Value).ownBlock)) k_ ∧ some k_ ≠ (v306 : Value).ownBlock)) (HO312.out) (fun k_ hk => ⟨hk.1.2, hk.2⟩)))); (case aB => exact (below_at HB.out)); (case aF => exact (fun k_ hk => Kd.fresh' (Kd.N_lt (Kd.N_below HO304.out lt_)) k_ hk)); (case aO => exact (Kd.N_below (Kd.N_mono HO307.out (fun _ hk => hk.2)) lt_)); (case aS => exact (below_size (below_at HB.out))); (case aL => have := LMc39.out; omega); intro v314 w62 ho hb hg hat; rw [← Ny313.out] at ho; have n0_ := Aside0.mk (Kd.N_afterv (ok := (fun k_ => some k_ ≠ (.slice Ao58 y302.length co58 : Value).ownBlock)) (Kd.N_below (Kd.N_mono HO_4.out (fun _ hk => ⟨hk.1.2, hk.2⟩)) lt_) hg hat); have n1_ := Aside0.mk (Kd.N_afterv (ok := (fun _ => True)) (Kd.N_below HO304.out lt_) hg hat); have n2_ := Aside0.mk (Kd.V_afterv (ok := (fun k_ => some k_ ≠ (.slice Ao58 y302.length co58 : Value).ownBlock)) (Kd.V_belowL (Kd.V_mono HO312.out (fun _ hk => ⟨hk.1.2, hk.2⟩)) lt_) hg hat); have n3_ := Aside0.mk (hb); have n4_ := Aside0.mk (ho); clear HO_4; clear HO304; clear HO312; clear HB; clear HO307; have HO_4 := n0_; have HO304 := n1_; have HO312 := n2_; have HB := n3_; have HO315 := n4_; clear n0_ n1_ n2_ n3_ n4_; clear ho hb hg hat) | ((with_reducible refine gate_callee (f := 22) rfl ?_); refine goesL_ (some 76) rfl rfl Try.func22 (by kernel_rfl) rfl #[.int .i64 t290, .slice Ao27 t291.length co27] rfl (by (try simp only [List.map_toArray, List.map_cons, List.map_nil]); first | done | rfl | (simp only [List.length_drop, List.length_take]; rfl)) ?_; (with_reducible refine (impl_ClashOk.calls k1 t290 _ _ t291 t316 _ ?side1 ?side2 A40.out).mono ?_); (case side1 => exact Kd.C_below (Kd.N_reads' HO_4.out).2.2 lt_); (case side2 => exact (Kd.N_reads' HO_4.out).2.1); rintro e w63 ⟨rfl, hb⟩; refine ⟨_, rfl, ?_⟩; have n0_ := Aside0.mk (Kd.N_below (Kd.N_below HO_4.out lt_) hb); have n1_ := Aside0.mk (Kd.N_below (Kd.N_below HO304.out lt_) hb); have n2_ := Aside0.mk (Kd.V_below (Kd.V_belowL HO312.out lt_) hb); have n3_ := Aside0.mk (Kd.N_below (Kd.N_below HO315.out lt_) hb); have n4_ := Aside0.mk (below_step (below_at HB.out) hb); clear HO_4; clear HO304; clear HO312; clear HO315; clear HB; have HO_4 := n0_; have HO304 := n1_; have HO312 := n2_; have HO315 := n3_; have HB := n4_; clear n0_ n1_ n2_ n3_ n4_; (try clear hb); (try clear hb2); (try clear hk); (try clear hi)))
              go_ret
              exact ⟨by first | rfl | (simp [errW_none, errW_some] <;> rfl) | (simp only [← hji36]; first | rfl | (simp [errW_none, errW_some] <;> rfl)) | (simp [*, errW_none, errW_some] <;> rfl), below_at HB.out⟩
            ·rw [if_neg c41] at H
             have c41b0 : ((t294 == 0) == (!t316)) = false := by simpa using c41
             (try (have c41b1 : decide ((t294 == 0) = (!t316)) = false := by simpa using c41))
             (try (have c41b2 : ((t294 == 0) == (!t316)) = false := by simpa using c41))
             (try (have c41b3 : ¬ ((t294 == 0) = (!t316)) := by simpa using c41))
             clear c41
             obtain rfl := Option.some.inj H
             go_wp2_with (first | ((with_reducible refine gate_dst (N := 59) rfl ?_); refine Kd.N_lit k38 _ 38 ?hg (N' := 59) ?hd (xs := ([] : List (S38))) (inner := []) (ok := (fun k_ => some k_ ≠ (.slice Ao27 t291.length co27 : Value).ownBlock)) (okp := (fun k_ => some k_ ≠ (.slice Ao27 t291.length co27 : Value).ownBlock)) ?hr ?hp (fun _ hk => hk) ((show ∀ k_, wr.heap.size ≤ k_ → (fun k_ => some k_ ≠ (.slice Ao27 t291.length co27 : Value).ownBlock) k_ from fun k_ hk => Kd.fresh' (Kd.N_lt (Kd.N_below HO_4.out lt_)) k_ hk) _ (Nat.le_refl _)) (Below.refl _ _) (Nat.le_refl _) (by simp) ?_; (case hd => rfl); (case hg => rfl); (case hr => first | (go_simp; done) | (go_simp; rfl)); (case hp => exact (Reps.none _ _)); intro v300 w64 ho65 hb hg_ hnew_; clear hg_ hnew_; (first | rw [← Ny299.out] at ho65 | (simp only [Int.reduceToNat] at ho65; rw [← Ny299.out] at ho65)); have n0_ := Aside0.mk (Kd.N_elder' (Kd.N_below HO_4.out lt_) (Kd.N_base ho65) hb); have n1_ := Aside0.mk (Kd.N_lower ho65 (below_size (below_at HB.out))); have n2_ := Aside0.mk (below_step (below_at HB.out) hb); clear HO_4; clear HB; have HO_4 := n0_; have HO301 := n1_; have HB := n2_; clear n0_ n1_ n2_; clear hb ho65) | ((with_reducible refine gate_builtin (b := .append) (xs := #[.tmp 59, .tmp 60]) rfl ?_); at_builtin; refine Kd.N_append_rows k38 (w0 := w) w.heap.size rfl (.tmp 59) (.tmp 60) 25 38 (.agg #[(.int .i64 0), (.slice none 0 0)]) 32 rfl Try.underlying25 info38 rfl (by decide) (by omega) v300 y299 t291 _ _ _ (fun _ => True) (fun k_ => ((fun _ => True)) k_ ∧ some k_ ≠ (v300 : Value).ownBlock) rfl rfl ?aO ?aR (fun _ hk => hk) ?aF ?aB ?aS ?aL ?_; (case aR => exact (by skip; exact Kd.N_F (Kd.N_mono (ok' := (fun k_ => ((fun _ => True)) k_ ∧ some k_ ≠ (v300 : Value).ownBlock)) (HO_4.out) (fun k_ hk => ⟨trivial, hk.2⟩)))); (case aB => exact (below_at HB.out)); (case aF => exact (fun _ _ => trivial)); (case aO => exact (Kd.N_below (Kd.N_mono HO301.out (fun _ hk => trivial)) lt_)); (case aS => exact (below_size (below_at HB.out))); (case aL => have := LMc34.out; omega); intro v303 w66 ho hb hg hat; rw [← Ny302.out] at ho; have n0_ := Aside0.mk (Kd.N_afterv (ok := (fun _ => True)) (Kd.N_below HO_4.out lt_) hg hat); have n1_ := Aside0.mk (hb); have n2_ := Aside0.mk (ho); clear HO_4; clear HB; clear HO301; have HO_4 := n0_; have HB := n1_; have HO304 := n2_; clear n0_ n1_ n2_; clear ho hb hg hat; obtain ⟨Ao67, co67, eo67⟩ := Kd.N_slice HO304.out; subst eo67) | ((with_reducible refine gate_dst (N := 65) rfl ?_); refine Kd.N_lit k38 _ 38 ?hg (N' := 65) ?hd (xs := ([] : List (S38))) (inner := []) (ok := (fun k_ => some k_ ≠ (.slice Ao27 t291.length co27 : Value).ownBlock ∧ some k_ ≠ (.slice Ao67 y302.length co67 : Value).ownBlock)) (okp := (fun k_ => some k_ ≠ (.slice Ao27 t291.length co27 : Value).ownBlock ∧ some k_ ≠ (.slice Ao67 y302.length co67 : Value).ownBlock)) ?hr ?hp (fun _ hk => hk) ((show ∀ k_, w66.heap.size ≤ k_ → (fun k_ => some k_ ≠ (.slice Ao27 t291.length co27 : Value).ownBlock ∧ some k_ ≠ (.slice Ao67 y302.length co67 : Value).ownBlock) k_ from fun k_ hk => ⟨Kd.fresh' (Kd.N_lt (Kd.N_below HO_4.out lt_)) k_ hk, Kd.fresh' (Kd.N_lt (Kd.N_below HO304.out lt_)) k_ hk⟩) _ (Nat.le_refl _)) (Below.refl _ _) (Nat.le_refl _) (by simp) ?_; (case hd => rfl); (case hg => rfl); (case hr => first | (go_simp; done) | (go_simp; rfl)); (case hp => exact (Reps.none _ _)); intro v306 w68 ho69 hb hg_ hnew_; clear hg_ hnew_; (first | rw [← Ny305.out] at ho69 | (simp only [Int.reduceToNat] at ho69; rw [← Ny305.out] at ho69)); have n0_ := Aside0.mk (Kd.N_elder' (Kd.N_below HO_4.out lt_) (Kd.N_base ho69) hb); have n1_ := Aside0.mk (Kd.N_elder' (Kd.N_below HO304.out lt_) (Kd.N_base ho69) hb); have n2_ := Aside0.mk (Kd.N_lower ho69 (below_size (below_at HB.out))); have n3_ := Aside0.mk (below_step (below_at HB.out) hb); clear HO_4; clear HO304; clear HB; have HO_4 := n0_; have HO304 := n1_; have HO307 := n2_; have HB := n3_; clear n0_ n1_ n2_ n3_; clear hb ho69; have q70 : ((ji36) : Int) ≤ ((t291.length : Int) : Int) := of_decide_eq_true (by first | (with_reducible assumption) | assumption); obtain ⟨i070, hi070, _, hsz70, _⟩ := info_parts info38; have hroom70 : t291.length ≤ co27 := (Kd.N_reads' HO_4.out).2.1; have hC70 : Kd.F k38 _ _ Ao27 t291.length t291 := (Kd.V_at (base := w.heap.size) (Kd.N_V HO_4.out)).2.2; have hcut70 := cut_to (P := Try.prog) 25 38 .i64 Try.underlying25 hi070 Ao27 t291.length co27 (ji36) (of_decide_eq_true (by first | (with_reducible assumption) | assumption)) q70 hroom70; have hr70 := Kd.F_take (m := ((ji36) : Int).toNat) hC70 (by omega); have hy70 : y308.length = ((ji36) : Int).toNat := (by rw [Ny308.out, List.length_take]; omega); rw [← Ny308.out] at hr70; rw [← hy70] at hcut70; have HO312 := Aside0.mk (show Kd.V k38 38 _ w.heap.size _ (.slice Ao27 y308.length co27) y308 from Kd.V_mk (by omega) hr70); have HC312 := Aside0.mk (show y308.length ≤ co27 from by omega); clear hr70 hC70 hroom70 hi070 hsz70; have KY70 := Aside0.mk hy70; clear hy70; replace q70 := eq_true q70) | ((with_reducible refine gate_builtin (b := .append) (xs := #[.tmp 65, .tmp 70]) rfl ?_); at_builtin; refine Kd.N_append_rows k38 (w0 := w) w.heap.size rfl (.tmp 65) (.tmp 70) 25 38 (.agg #[(.int .i64 0), (.slice none 0 0)]) 32 rfl Try.underlying25 info38 rfl (by decide) (by omega) v306 y305 y308 _ _ _ (fun k_ => some k_ ≠ (.slice Ao67 y302.length co67 : Value).ownBlock) (fun k_ => ((fun k_ => some k_ ≠ (.slice Ao67 y302.length co67 : Value).ownBlock)) k_ ∧ some k_ ≠ (v306 : Value).ownBlock) rfl rfl ?aO ?aR (fun _ hk => hk) ?aF ?aB ?aS ?aL ?_; (case aR => exact (by skip; exact Kd.V_F (Kd.V_mono (ok' := (fun k_ => ((fun k_ => some k_ ≠ (.slice Ao67 y302.length co67 : Value).ownBlock)) k_ ∧ some k_ ≠ (v306 : Value).ownBlock)) (HO312.out) (fun k_ hk => ⟨hk.1.2, hk.2⟩)))); (case aB => exact (below_at HB.out)); (case aF => exact (fun k_ hk => Kd.fresh' (Kd.N_lt (Kd.N_below HO304.out lt_)) k_ hk)); (case aO => exact (Kd.N_below (Kd.N_mono HO307.out (fun _ hk => hk.2)) lt_)); (case aS => exact (below_size (below_at HB.out))); (case aL => have := LMc39.out; omega); intro v314 w71 ho hb hg hat; rw [← Ny313.out] at ho; have n0_ := Aside0.mk (Kd.N_afterv (ok := (fun k_ => some k_ ≠ (.slice Ao67 y302.length co67 : Value).ownBlock)) (Kd.N_below (Kd.N_mono HO_4.out (fun _ hk => ⟨hk.1.2, hk.2⟩)) lt_) hg hat); have n1_ := Aside0.mk (Kd.N_afterv (ok := (fun _ => True)) (Kd.N_below HO304.out lt_) hg hat); have n2_ := Aside0.mk (Kd.V_afterv (ok := (fun k_ => some k_ ≠ (.slice Ao67 y302.length co67 : Value).ownBlock)) (Kd.V_belowL (Kd.V_mono HO312.out (fun _ hk => ⟨hk.1.2, hk.2⟩)) lt_) hg hat); have n3_ := Aside0.mk (hb); have n4_ := Aside0.mk (ho); clear HO_4; clear HO304; clear HO312; clear HB; clear HO307; have HO_4 := n0_; have HO304 := n1_; have HO312 := n2_; have HB := n3_; have HO315 := n4_; clear n0_ n1_ n2_ n3_ n4_; clear ho hb hg hat) | ((with_reducible refine gate_callee (f := 22) rfl ?_); refine goesL_ (some 76) rfl rfl Try.func22 (by kernel_rfl) rfl #[.int .i64 t290, .slice Ao27 t291.length co27] rfl (by (try simp only [List.map_toArray, List.map_cons, List.map_nil]); first | done | rfl | (simp only [List.length_drop, List.length_take]; rfl)) ?_; (with_reducible refine (impl_ClashOk.calls k1 t290 _ _ t291 t316 _ ?side1 ?side2 A40.out).mono ?_); (case side1 => exact Kd.C_below (Kd.N_reads' HO_4.out).2.2 lt_); (case side2 => exact (Kd.N_reads' HO_4.out).2.1); rintro e w72 ⟨rfl, hb⟩; refine ⟨_, rfl, ?_⟩; have n0_ := Aside0.mk (Kd.N_below (Kd.N_below HO_4.out lt_) hb); have n1_ := Aside0.mk (Kd.N_below (Kd.N_below HO304.out lt_) hb); have n2_ := Aside0.mk (Kd.V_below (Kd.V_belowL HO312.out lt_) hb); have n3_ := Aside0.mk (Kd.N_below (Kd.N_below HO315.out lt_) hb); have n4_ := Aside0.mk (below_step (below_at HB.out) hb); clear HO_4; clear HO304; clear HO312; clear HO315; clear HB; have HO_4 := n0_; have HO304 := n1_; have HO312 := n2_; have HO315 := n3_; have HB := n4_; clear n0_ n1_ n2_ n3_ n4_; (try clear hb); (try clear hb2); (try clear hk); (try clear hi)))
             go_ret
             exact ⟨by first | rfl | (simp [errW_none, errW_some] <;> rfl) | (simp only [← hji36]; first | rfl | (simp [errW_none, errW_some] <;> rfl)) | (simp [*, errW_none, errW_some] <;> rfl), below_at HB.out⟩
           ·rw [if_neg c39] at H
            exact absurd H (by simp)
          ·rw [if_neg c38] at H
           exact absurd H (by simp)
         ·rw [if_neg c37] at H
          exact absurd H (by simp)
        ·rw [if_neg c35] at H
         have c35b0 : decide (0 < (y302.length : Int)) = false := decide_eq_false c35
         have c35b1 : decide (0 < y302.length) = false := decide_eq_false (by omega)
         clear c35
         replace H := Option.bind_eq_some_iff.mp H
         obtain ⟨t318, A730, H⟩ := H
         try dsimp only at H
         have A73 := Aside0.mk A730
         clear A730
         by_cases c74 : ((t294 == 0) == (!t318)) = true
         ·rw [if_pos c74] at H
          have c74b0 : ((t294 == 0) == (!t318)) = true := c74
          (try (have c74b1 : decide ((t294 == 0) = (!t318)) = true := by simpa using c74))
          (try (have c74b2 : ((t294 == 0) == (!t318)) = true := by simpa using c74))
          clear c74
          by_cases c75 : t294 ≤ x6_1
          ·rw [if_pos c75] at H
           have c75b0 : decide (t294 ≤ x6_1) = true := decide_eq_true c75
           clear c75
           replace H := Option.bind_eq_some_iff.mp H
           obtain ⟨t319, A760, H⟩ := H
           try dsimp only at H
           have A76 := Aside0.mk A760
           clear A760
           obtain rfl := Option.some.inj H
           go_wp2_with (first | ((with_reducible refine gate_dst (N := 59) rfl ?_); refine Kd.N_lit k38 _ 38 ?hg (N' := 59) ?hd (xs := ([] : List (S38))) (inner := []) (ok := (fun k_ => some k_ ≠ (.slice Ao27 t291.length co27 : Value).ownBlock)) (okp := (fun k_ => some k_ ≠ (.slice Ao27 t291.length co27 : Value).ownBlock)) ?hr ?hp (fun _ hk => hk) ((show ∀ k_, wr.heap.size ≤ k_ → (fun k_ => some k_ ≠ (.slice Ao27 t291.length co27 : Value).ownBlock) k_ from fun k_ hk => Kd.fresh' (Kd.N_lt (Kd.N_below HO_4.out lt_)) k_ hk) _ (Nat.le_refl _)) (Below.refl _ _) (Nat.le_refl _) (by simp) ?_; (case hd => rfl); (case hg => rfl); (case hr => first | (go_simp; done) | (go_simp; rfl)); (case hp => exact (Reps.none _ _)); intro v300 w77 ho78 hb hg_ hnew_; clear hg_ hnew_; (first | rw [← Ny299.out] at ho78 | (simp only [Int.reduceToNat] at ho78; rw [← Ny299.out] at ho78)); have n0_ := Aside0.mk (Kd.N_elder' (Kd.N_below HO_4.out lt_) (Kd.N_base ho78) hb); have n1_ := Aside0.mk (Kd.N_lower ho78 (below_size (below_at HB.out))); have n2_ := Aside0.mk (below_step (below_at HB.out) hb); clear HO_4; clear HB; have HO_4 := n0_; have HO301 := n1_; have HB := n2_; clear n0_ n1_ n2_; clear hb ho78) | ((with_reducible refine gate_builtin (b := .append) (xs := #[.tmp 59, .tmp 60]) rfl ?_); at_builtin; refine Kd.N_append_rows k38 (w0 := w) w.heap.size rfl (.tmp 59) (.tmp 60) 25 38 (.agg #[(.int .i64 0), (.slice none 0 0)]) 32 rfl Try.underlying25 info38 rfl (by decide) (by omega) v300 y299 t291 _ _ _ (fun _ => True) (fun k_ => ((fun _ => True)) k_ ∧ some k_ ≠ (v300 : Value).ownBlock) rfl rfl ?aO ?aR (fun _ hk => hk) ?aF ?aB ?aS ?aL ?_; (case aR => exact (by skip; exact Kd.N_F (Kd.N_mono (ok' := (fun k_ => ((fun _ => True)) k_ ∧ some k_ ≠ (v300 : Value).ownBlock)) (HO_4.out) (fun k_ hk => ⟨trivial, hk.2⟩)))); (case aB => exact (below_at HB.out)); (case aF => exact (fun _ _ => trivial)); (case aO => exact (Kd.N_below (Kd.N_mono HO301.out (fun _ hk => trivial)) lt_)); (case aS => exact (below_size (below_at HB.out))); (case aL => have := LMc34.out; omega); intro v303 w79 ho hb hg hat; rw [← Ny302.out] at ho; have n0_ := Aside0.mk (Kd.N_afterv (ok := (fun _ => True)) (Kd.N_below HO_4.out lt_) hg hat); have n1_ := Aside0.mk (hb); have n2_ := Aside0.mk (ho); clear HO_4; clear HB; clear HO301; have HO_4 := n0_; have HB := n1_; have HO304 := n2_; clear n0_ n1_ n2_; clear ho hb hg hat; obtain ⟨Ao80, co80, eo80⟩ := Kd.N_slice HO304.out; subst eo80) | ((with_reducible refine gate_callee (f := 22) rfl ?_); refine goesL_ (some 76) rfl rfl Try.func22 (by kernel_rfl) rfl #[.int .i64 t290, .slice Ao27 t291.length co27] rfl (by (try simp only [List.map_toArray, List.map_cons, List.map_nil]); first | done | rfl | (simp only [List.length_drop, List.length_take]; rfl)) ?_; (with_reducible refine (impl_ClashOk.calls k1 t290 _ _ t291 t318 _ ?side1 ?side2 A73.out).mono ?_); (case side1 => exact Kd.C_below (Kd.N_reads' HO_4.out).2.2 lt_); (case side2 => exact (Kd.N_reads' HO_4.out).2.1); rintro e w81 ⟨rfl, hb⟩; refine ⟨_, rfl, ?_⟩; have n0_ := Aside0.mk (Kd.N_below (Kd.N_below HO_4.out lt_) hb); have n1_ := Aside0.mk (Kd.N_below (Kd.N_below HO304.out lt_) hb); have n2_ := Aside0.mk (below_step (below_at HB.out) hb); clear HO_4; clear HO304; clear HB; have HO_4 := n0_; have HO304 := n1_; have HB := n2_; clear n0_ n1_ n2_; (try clear hb); (try clear hb2); (try clear hk); (try clear hi)) | (go_at_call 18; (with_reducible refine (impl_FewestSpies.calls k1 t290 _ _ y302 t319 _ ?side1 ?side2 A76.out).mono ?_); (case side1 => exact Kd.C_below (Kd.N_reads' HO304.out).2.2 lt_); (case side2 => exact (Kd.N_reads' HO304.out).2.1); rintro e w82 ⟨rfl, hb⟩; have n0_ := Aside0.mk (Kd.N_below (Kd.N_below HO_4.out lt_) hb); have n1_ := Aside0.mk (Kd.N_below (Kd.N_below HO304.out lt_) hb); have n2_ := Aside0.mk (below_step (below_at HB.out) hb); clear HO_4; clear HO304; clear HB; have HO_4 := n0_; have HO304 := n1_; have HB := n2_; clear n0_ n1_ n2_; (try clear hb); (try clear hb2); (try clear hk); (try clear hi)))
           go_ret
           exact ⟨by first | rfl | (simp [errW_none, errW_some] <;> rfl) | (simp [*, errW_none, errW_some] <;> rfl), below_at HB.out⟩
          ·rw [if_neg c75] at H
           have c75b0 : decide (t294 ≤ x6_1) = false := decide_eq_false c75
           clear c75
           obtain rfl := Option.some.inj H
           go_wp2_with (first | ((with_reducible refine gate_dst (N := 59) rfl ?_); refine Kd.N_lit k38 _ 38 ?hg (N' := 59) ?hd (xs := ([] : List (S38))) (inner := []) (ok := (fun k_ => some k_ ≠ (.slice Ao27 t291.length co27 : Value).ownBlock)) (okp := (fun k_ => some k_ ≠ (.slice Ao27 t291.length co27 : Value).ownBlock)) ?hr ?hp (fun _ hk => hk) ((show ∀ k_, wr.heap.size ≤ k_ → (fun k_ => some k_ ≠ (.slice Ao27 t291.length co27 : Value).ownBlock) k_ from fun k_ hk => Kd.fresh' (Kd.N_lt (Kd.N_below HO_4.out lt_)) k_ hk) _ (Nat.le_refl _)) (Below.refl _ _) (Nat.le_refl _) (by simp) ?_; (case hd => rfl); (case hg => rfl); (case hr => first | (go_simp; done) | (go_simp; rfl)); (case hp => exact (Reps.none _ _)); intro v300 w83 ho84 hb hg_ hnew_; clear hg_ hnew_; (first | rw [← Ny299.out] at ho84 | (simp only [Int.reduceToNat] at ho84; rw [← Ny299.out] at ho84)); have n0_ := Aside0.mk (Kd.N_elder' (Kd.N_below HO_4.out lt_) (Kd.N_base ho84) hb); have n1_ := Aside0.mk (Kd.N_lower ho84 (below_size (below_at HB.out))); have n2_ := Aside0.mk (below_step (below_at HB.out) hb); clear HO_4; clear HB; have HO_4 := n0_; have HO301 := n1_; have HB := n2_; clear n0_ n1_ n2_; clear hb ho84) | ((with_reducible refine gate_builtin (b := .append) (xs := #[.tmp 59, .tmp 60]) rfl ?_); at_builtin; refine Kd.N_append_rows k38 (w0 := w) w.heap.size rfl (.tmp 59) (.tmp 60) 25 38 (.agg #[(.int .i64 0), (.slice none 0 0)]) 32 rfl Try.underlying25 info38 rfl (by decide) (by omega) v300 y299 t291 _ _ _ (fun _ => True) (fun k_ => ((fun _ => True)) k_ ∧ some k_ ≠ (v300 : Value).ownBlock) rfl rfl ?aO ?aR (fun _ hk => hk) ?aF ?aB ?aS ?aL ?_; (case aR => exact (by skip; exact Kd.N_F (Kd.N_mono (ok' := (fun k_ => ((fun _ => True)) k_ ∧ some k_ ≠ (v300 : Value).ownBlock)) (HO_4.out) (fun k_ hk => ⟨trivial, hk.2⟩)))); (case aB => exact (below_at HB.out)); (case aF => exact (fun _ _ => trivial)); (case aO => exact (Kd.N_below (Kd.N_mono HO301.out (fun _ hk => trivial)) lt_)); (case aS => exact (below_size (below_at HB.out))); (case aL => have := LMc34.out; omega); intro v303 w85 ho hb hg hat; rw [← Ny302.out] at ho; have n0_ := Aside0.mk (Kd.N_afterv (ok := (fun _ => True)) (Kd.N_below HO_4.out lt_) hg hat); have n1_ := Aside0.mk (hb); have n2_ := Aside0.mk (ho); clear HO_4; clear HB; clear HO301; have HO_4 := n0_; have HB := n1_; have HO304 := n2_; clear n0_ n1_ n2_; clear ho hb hg hat; obtain ⟨Ao86, co86, eo86⟩ := Kd.N_slice HO304.out; subst eo86) | ((with_reducible refine gate_callee (f := 22) rfl ?_); refine goesL_ (some 76) rfl rfl Try.func22 (by kernel_rfl) rfl #[.int .i64 t290, .slice Ao27 t291.length co27] rfl (by (try simp only [List.map_toArray, List.map_cons, List.map_nil]); first | done | rfl | (simp only [List.length_drop, List.length_take]; rfl)) ?_; (with_reducible refine (impl_ClashOk.calls k1 t290 _ _ t291 t318 _ ?side1 ?side2 A73.out).mono ?_); (case side1 => exact Kd.C_below (Kd.N_reads' HO_4.out).2.2 lt_); (case side2 => exact (Kd.N_reads' HO_4.out).2.1); rintro e w87 ⟨rfl, hb⟩; refine ⟨_, rfl, ?_⟩; have n0_ := Aside0.mk (Kd.N_below (Kd.N_below HO_4.out lt_) hb); have n1_ := Aside0.mk (Kd.N_below (Kd.N_below HO304.out lt_) hb); have n2_ := Aside0.mk (below_step (below_at HB.out) hb); clear HO_4; clear HO304; clear HB; have HO_4 := n0_; have HO304 := n1_; have HB := n2_; clear n0_ n1_ n2_; (try clear hb); (try clear hb2); (try clear hk); (try clear hi)))
           go_ret
           exact ⟨by first | rfl | (simp [errW_none, errW_some] <;> rfl) | (simp [*, errW_none, errW_some] <;> rfl), below_at HB.out⟩
         ·rw [if_neg c74] at H
          have c74b0 : ((t294 == 0) == (!t318)) = false := by simpa using c74
          (try (have c74b1 : decide ((t294 == 0) = (!t318)) = false := by simpa using c74))
          (try (have c74b2 : ((t294 == 0) == (!t318)) = false := by simpa using c74))
          (try (have c74b3 : ¬ ((t294 == 0) = (!t318)) := by simpa using c74))
          clear c74
          obtain rfl := Option.some.inj H
          go_wp2_with (first | ((with_reducible refine gate_dst (N := 59) rfl ?_); refine Kd.N_lit k38 _ 38 ?hg (N' := 59) ?hd (xs := ([] : List (S38))) (inner := []) (ok := (fun k_ => some k_ ≠ (.slice Ao27 t291.length co27 : Value).ownBlock)) (okp := (fun k_ => some k_ ≠ (.slice Ao27 t291.length co27 : Value).ownBlock)) ?hr ?hp (fun _ hk => hk) ((show ∀ k_, wr.heap.size ≤ k_ → (fun k_ => some k_ ≠ (.slice Ao27 t291.length co27 : Value).ownBlock) k_ from fun k_ hk => Kd.fresh' (Kd.N_lt (Kd.N_below HO_4.out lt_)) k_ hk) _ (Nat.le_refl _)) (Below.refl _ _) (Nat.le_refl _) (by simp) ?_; (case hd => rfl); (case hg => rfl); (case hr => first | (go_simp; done) | (go_simp; rfl)); (case hp => exact (Reps.none _ _)); intro v300 w88 ho89 hb hg_ hnew_; clear hg_ hnew_; (first | rw [← Ny299.out] at ho89 | (simp only [Int.reduceToNat] at ho89; rw [← Ny299.out] at ho89)); have n0_ := Aside0.mk (Kd.N_elder' (Kd.N_below HO_4.out lt_) (Kd.N_base ho89) hb); have n1_ := Aside0.mk (Kd.N_lower ho89 (below_size (below_at HB.out))); have n2_ := Aside0.mk (below_step (below_at HB.out) hb); clear HO_4; clear HB; have HO_4 := n0_; have HO301 := n1_; have HB := n2_; clear n0_ n1_ n2_; clear hb ho89) | ((with_reducible refine gate_builtin (b := .append) (xs := #[.tmp 59, .tmp 60]) rfl ?_); at_builtin; refine Kd.N_append_rows k38 (w0 := w) w.heap.size rfl (.tmp 59) (.tmp 60) 25 38 (.agg #[(.int .i64 0), (.slice none 0 0)]) 32 rfl Try.underlying25 info38 rfl (by decide) (by omega) v300 y299 t291 _ _ _ (fun _ => True) (fun k_ => ((fun _ => True)) k_ ∧ some k_ ≠ (v300 : Value).ownBlock) rfl rfl ?aO ?aR (fun _ hk => hk) ?aF ?aB ?aS ?aL ?_; (case aR => exact (by skip; exact Kd.N_F (Kd.N_mono (ok' := (fun k_ => ((fun _ => True)) k_ ∧ some k_ ≠ (v300 : Value).ownBlock)) (HO_4.out) (fun k_ hk => ⟨trivial, hk.2⟩)))); (case aB => exact (below_at HB.out)); (case aF => exact (fun _ _ => trivial)); (case aO => exact (Kd.N_below (Kd.N_mono HO301.out (fun _ hk => trivial)) lt_)); (case aS => exact (below_size (below_at HB.out))); (case aL => have := LMc34.out; omega); intro v303 w90 ho hb hg hat; rw [← Ny302.out] at ho; have n0_ := Aside0.mk (Kd.N_afterv (ok := (fun _ => True)) (Kd.N_below HO_4.out lt_) hg hat); have n1_ := Aside0.mk (hb); have n2_ := Aside0.mk (ho); clear HO_4; clear HB; clear HO301; have HO_4 := n0_; have HB := n1_; have HO304 := n2_; clear n0_ n1_ n2_; clear ho hb hg hat; obtain ⟨Ao91, co91, eo91⟩ := Kd.N_slice HO304.out; subst eo91) | ((with_reducible refine gate_callee (f := 22) rfl ?_); refine goesL_ (some 76) rfl rfl Try.func22 (by kernel_rfl) rfl #[.int .i64 t290, .slice Ao27 t291.length co27] rfl (by (try simp only [List.map_toArray, List.map_cons, List.map_nil]); first | done | rfl | (simp only [List.length_drop, List.length_take]; rfl)) ?_; (with_reducible refine (impl_ClashOk.calls k1 t290 _ _ t291 t318 _ ?side1 ?side2 A73.out).mono ?_); (case side1 => exact Kd.C_below (Kd.N_reads' HO_4.out).2.2 lt_); (case side2 => exact (Kd.N_reads' HO_4.out).2.1); rintro e w92 ⟨rfl, hb⟩; refine ⟨_, rfl, ?_⟩; have n0_ := Aside0.mk (Kd.N_below (Kd.N_below HO_4.out lt_) hb); have n1_ := Aside0.mk (Kd.N_below (Kd.N_below HO304.out lt_) hb); have n2_ := Aside0.mk (below_step (below_at HB.out) hb); clear HO_4; clear HO304; clear HB; have HO_4 := n0_; have HO304 := n1_; have HB := n2_; clear n0_ n1_ n2_; (try clear hb); (try clear hb2); (try clear hk); (try clear hi)))
          go_ret
          exact ⟨by first | rfl | (simp [errW_none, errW_some] <;> rfl) | (simp [*, errW_none, errW_some] <;> rfl), below_at HB.out⟩
       ·rw [if_neg c34] at H
        exact absurd H (by simp)
  ·rw [if_neg c6] at H
   have c6b0 : (t294 == t295) = false := beq_eq_false_iff_ne.mpr c6
   have c6b1 : (t294 != t295) = true := bne_iff_ne.mpr c6
   obtain rfl := Option.some.inj H
   go_enter Try.func5, Try.ntmps5
   go_wp2_with (first | ((with_reducible refine gate_callee (f := 19) rfl ?_); refine goesL_ (some 15) rfl rfl Try.func19 (by kernel_rfl) rfl #[.slice A0 l0.length c0] rfl (by (try simp only [List.map_toArray, List.map_cons, List.map_nil]); first | done | rfl | (simp only [List.length_drop, List.length_take]; rfl)) ?_; (with_reducible refine (spec_DrawFewestSpies.calls k _ _ l0 t290 t291 _ ?side1 ?side2 A3.out).mono ?_); (case side1 => exact Kd.C_below HR0.out lt_); (case side2 => exact HC0.out); rintro e w93 ⟨v292, rfl, ho0, hb⟩; refine ⟨_, rfl, ?_⟩; have n0_ := Aside0.mk (Kd.N_lower (Kd.N_mono (ok' := fun k_ => True) (Kd.S_N (Kd.S_bound ho0)) (fun k_ hk_ => trivial)) (below_size (below_at HB.out))); have n1_ := Aside0.mk (below_step (below_at HB.out) hb); clear HB; have HO293 := n0_; have HB := n1_; clear n0_ n1_; (try clear hb); (try clear hb2); (try clear hk); (try clear hi); (try clear ho0); obtain ⟨Ao94, co94, eo94⟩ := Kd.N_slice HO293.out; subst eo94) | ((with_reducible refine gate_callee (f := 18) rfl ?_); refine goesL_ (some 20) rfl rfl Try.func18 (by kernel_rfl) rfl #[.int .i64 t290, .slice Ao94 t291.length co94] rfl (by (try simp only [List.map_toArray, List.map_cons, List.map_nil]); first | done | rfl | (simp only [List.length_drop, List.length_take]; rfl)) ?_; (with_reducible refine (impl_FewestSpies.calls k t290 _ _ t291 t294 _ ?side1 ?side2 A4.out).mono ?_); (case side1 => exact Kd.C_below (Kd.N_reads' HO293.out).2.2 lt_); (case side2 => exact (Kd.N_reads' HO293.out).2.1); rintro e w95 ⟨rfl, hb⟩; refine ⟨_, rfl, ?_⟩; have n0_ := Aside0.mk (Kd.N_below (Kd.N_below HO293.out lt_) hb); have n1_ := Aside0.mk (below_step (below_at HB.out) hb); clear HO293; clear HB; have HO293 := n0_; have HB := n1_; clear n0_ n1_; (try clear hb); (try clear hb2); (try clear hk); (try clear hi)) | ((with_reducible refine gate_callee (f := 17) rfl ?_); refine goesL_ (some 24) rfl rfl Try.func17 (by kernel_rfl) rfl #[.int .i64 t290, .slice Ao94 t291.length co94] rfl (by (try simp only [List.map_toArray, List.map_cons, List.map_nil]); first | done | rfl | (simp only [List.length_drop, List.length_take]; rfl)) ?_; (with_reducible refine (spec_FewestSpies.calls k t290 _ _ t291 t295 _ ?side1 ?side2 A5.out).mono ?_); (case side1 => exact Kd.C_below (Kd.N_reads' HO293.out).2.2 lt_); (case side2 => exact (Kd.N_reads' HO293.out).2.1); rintro e w96 ⟨rfl, hb⟩; refine ⟨_, rfl, ?_⟩; have n0_ := Aside0.mk (Kd.N_below (Kd.N_below HO293.out lt_) hb); have n1_ := Aside0.mk (below_step (below_at HB.out) hb); clear HO293; clear HB; have HO293 := n0_; have HB := n1_; clear n0_ n1_; (try clear hb); (try clear hb2); (try clear hk); (try clear hi)))
   go_ret
   exact ⟨by first | rfl | (simp [errW_none, errW_some] <;> rfl) | (simp [*, errW_none, errW_some] <;> rfl), below_at HB.out⟩

/-- THE ONE PURE STATEMENT of laws_FnFewestSpies: yours. -/
noncomputable def laws_FnFewestSpies.Pure : Prop := ∀ (l0 : List Int), l0.length ≤ maxLen → l0.length * 1 ≤ 140737488351232 → (∀ x ∈ l0, (Lit.int .u8 x).wf = true) → ∃ k, laws_FnFewestSpies.f k l0 = some true
theorem laws_FnFewestSpies.walk (P : laws_FnFewestSpies.Pure) (a0 : Option Addr) (len0 cap0 : Nat) (z0 : List Int) (w : World) (w0 : (a0 = none ∧ len0 = 0 ∧ cap0 = 0 ∧ z0 = []) ∨ ∃ x, a0 = some x ∧ len0 ≤ cap0 ∧ cap0 ≤ maxLen ∧ z0.length = cap0 ∧ (∀ i, i < z0.length → w.cell? (x.add i) = some (.int .u8 (z0.getD i 0))) ∧ ∀ n ∈ z0, (Lit.int .u8 n).wf = true) (y0 : len0 * 1 ≤ 140737488351232) :
  Calls Try.prog 5 #[.slice a0 len0 cap0] w fun e w' => e = .returned (.bool true) ∧ Below w.heap.size w w' := by
 obtain ⟨l0, rfl, hr0, hm0, hw0, hc0⟩ := ReadsInt.ofRowC w0
 obtain ⟨k, h⟩ := P l0 hm0 y0 hw0
 refine (laws_FnFewestSpies.calls k _ _ l0 true w (Kd.C_of_reads (d := (0 : Int)) (h1 := fun _ => rfl) hr0) hc0 h).mono ?_
 rintro e w' ⟨rfl, hd⟩
 exact ⟨rfl, hd⟩

end Go.Proofs.Ytcaogllnbpmcgaa.P

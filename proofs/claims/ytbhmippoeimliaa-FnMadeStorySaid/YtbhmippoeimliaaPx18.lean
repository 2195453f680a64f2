/- Written by our program myprint.py out of Lean's print of the translation: Go's function comes to just the answer of the Lean function told here. -/
import Derived.Test.YtbhmippoeimliaaPx0
import Derived.Test.YtbhmippoeimliaaPx2
import Derived.Test.YtbhmippoeimliaaPx3
import Derived.Test.YtbhmippoeimliaaPx8
import Derived.Test.YtbhmippoeimliaaPx12
import Derived.Test.YtbhmippoeimliaaPx14
import Derived.Test.YtbhmippoeimliaaPx17
namespace Go.Proofs.Ytbhmippoeimliaa.P
open Go.RowKit Go.Proofs.YtbhmippoeimliaaW.PrintWords Go.Proofs.YtbhmippoeimliaaW.PrintLast Go.Proofs.YtbhmippoeimliaaW.PrintMore
attribute [local go_sem] max2_int min2_int max_two min_two max_three min_three max_four min_four   -- for this text's walks alone
set_option linter.unusedVariables false
set_option linter.unusedSimpArgs false

/-! ### laws_FnMadeStory: function 13 -/
mutual
def laws_FnMadeStory.j0 : Nat → Int → Int → List (List (S81)) → List (S83) → Bool → Bool → Option (Bool)
 | 0, _, _, _, _, _, _ => none
 | k + 1, x3, x4, x5, x6, x7, x43 => if x43 = true then (some false) else (if x7 = true then (laws_FnMadeStory.l0 k x3 x4 x5 x6 0) else (if (x6.length : Int) = 0 then ((laws_alive.f).bind fun t350 => (some t350)) else (some false)))
def laws_FnMadeStory.l0 : Nat → Int → Int → List (List (S81)) → List (S83) → Int → Option (Bool)
 | 0, _, _, _, _, _ => none
 | k + 1, x3, x4, x5, x6, x10 => if x10 < (x6.length : Int) then ((some (([] : List (S81)) : List (S81))).bind fun y351 => (if 0 ≤ x10 then (if x10 < (x5.length : Int) then (if y351.length + (rd_L2 x5 x10).length < 8796093022208 then ((some (y351 ++ (rd_L2 x5 x10) : List (S81))).bind fun y355 => (if y355.length < 8796093022208 then (if ((rd_T83 x6 x10).f0) = x10 then ((laws_sameMarks.f k ((rd_T83 x6 x10).f1) (rd_L2 x5 x10)).bind fun t364 => (if t364 = true then (laws_FnMadeStory.l0 k x3 x4 x5 x6 (wrap64 (x10 + 1))) else ((laws_sameMarks.f k ((rd_T83 x6 x10).f1) (y355 ++ [(⟨2, 0⟩ : S81)])).bind fun t366 => (if t366 = true then (laws_FnMadeStory.l0 k x3 x4 x5 x6 (wrap64 (x10 + 1))) else (some false))))) else (some false)) else (none))) else (none)) else (none)) else (none))) else ((impl_StoryOk.f k x3 x6).bind fun t367 => (if t367 = true then (if (x6.length : Int) = (x5.length : Int) then ((impl_StoryTable.f k x3 x6).bind fun t368 => ((impl_WorldsIn.f k x3 t368).bind fun t369 => ((laws_hasInt.f k t369 x4).bind fun t372 => (some t372)))) else (some false)) else (some false)))
end
def laws_FnMadeStory.f (k : Nat) (l0 : List Int) : Option (Bool) := if (l0.length : Int) > 1048576 then (some true) else ((spec_DrawMadeStory.f k l0).bind fun bt336 => ((impl_MadeStory.f k bt336.1 bt336.2.1 bt336.2.2).bind fun bt341 => ((spec_MadeStory.f k bt336.1 bt336.2.1 bt336.2.2).bind fun bt345 => ((laws_sameStory.f k bt341.1 bt345.1).bind fun t349 => (if t349 = true then (laws_FnMadeStory.j0 k bt336.1 bt336.2.1 bt336.2.2 bt341.1 bt341.2 (bt341.2 != bt345.2)) else (laws_FnMadeStory.j0 k bt336.1 bt336.2.1 bt336.2.2 bt341.1 bt341.2 true))))))
theorem laws_FnMadeStory.mono_l : ∀ k, (∀ y0 y1 y2 y3 y4 y5, LeO (laws_FnMadeStory.j0 k y0 y1 y2 y3 y4 y5) (laws_FnMadeStory.j0 (k + 1) y0 y1 y2 y3 y4 y5)) ∧ (∀ y0 y1 y2 y3 y4, LeO (laws_FnMadeStory.l0 k y0 y1 y2 y3 y4) (laws_FnMadeStory.l0 (k + 1) y0 y1 y2 y3 y4))
 | 0 => ⟨fun _ _ _ _ _ _ r h => by simp [laws_FnMadeStory.j0] at h, fun _ _ _ _ _ r h => by simp [laws_FnMadeStory.l0] at h⟩
 | k + 1 => by
  obtain ⟨ih0, ih1⟩ := laws_FnMadeStory.mono_l k
  refine ⟨?_, ?_⟩
  ·intro y0 y1 y2 y3 y4 y5
   unfold laws_FnMadeStory.j0
   repeat' first
   | (with_reducible exact ih0 _ _ _ _ _ _)
   | (with_reducible exact ih1 _ _ _ _ _)
   | (with_reducible exact impl_MadeStory.mono _ _ _ _)
   | (with_reducible exact impl_StoryOk.mono _ _ _)
   | (with_reducible exact impl_StoryTable.mono _ _ _)
   | (with_reducible exact impl_WorldsIn.mono _ _ _)
   | (with_reducible exact laws_hasInt.mono _ _ _)
   | (with_reducible exact laws_sameMarks.mono _ _ _)
   | (with_reducible exact laws_sameStory.mono _ _ _)
   | (with_reducible exact spec_DrawMadeStory.mono _ _)
   | (with_reducible exact spec_MadeStory.mono _ _ _ _)
   | (with_reducible exact LeO.refl _)
   | (with_reducible exact LeO.none _)
   | (with_reducible refine LeO.ite ?_ ?_)
   | (with_reducible refine LeO.bind ?_ (fun _ => ?_))
   | exact ih0 _ _ _ _ _ _
   | exact ih1 _ _ _ _ _
   | exact impl_MadeStory.mono _ _ _ _
   | exact impl_StoryOk.mono _ _ _
   | exact impl_StoryTable.mono _ _ _
   | exact impl_WorldsIn.mono _ _ _
   | exact laws_hasInt.mono _ _ _
   | exact laws_sameMarks.mono _ _ _
   | exact laws_sameStory.mono _ _ _
   | exact spec_DrawMadeStory.mono _ _
   | exact spec_MadeStory.mono _ _ _ _
   | exact LeO.none _
   | refine LeO.ite ?_ ?_
   | refine LeO.bind ?_ (fun _ => ?_)
  ·intro y0 y1 y2 y3 y4
   unfold laws_FnMadeStory.l0
   repeat' first
   | (with_reducible exact ih0 _ _ _ _ _ _)
   | (with_reducible exact ih1 _ _ _ _ _)
   | (with_reducible exact impl_MadeStory.mono _ _ _ _)
   | (with_reducible exact impl_StoryOk.mono _ _ _)
   | (with_reducible exact impl_StoryTable.mono _ _ _)
   | (with_reducible exact impl_WorldsIn.mono _ _ _)
   | (with_reducible exact laws_hasInt.mono _ _ _)
   | (with_reducible exact laws_sameMarks.mono _ _ _)
   | (with_reducible exact laws_sameStory.mono _ _ _)
   | (with_reducible exact spec_DrawMadeStory.mono _ _)
   | (with_reducible exact spec_MadeStory.mono _ _ _ _)
   | (with_reducible exact LeO.refl _)
   | (with_reducible exact LeO.none _)
   | (with_reducible refine LeO.ite ?_ ?_)
   | (with_reducible refine LeO.bind ?_ (fun _ => ?_))
   | exact ih0 _ _ _ _ _ _
   | exact ih1 _ _ _ _ _
   | exact impl_MadeStory.mono _ _ _ _
   | exact impl_StoryOk.mono _ _ _
   | exact impl_StoryTable.mono _ _ _
   | exact impl_WorldsIn.mono _ _ _
   | exact laws_hasInt.mono _ _ _
   | exact laws_sameMarks.mono _ _ _
   | exact laws_sameStory.mono _ _ _
   | exact spec_DrawMadeStory.mono _ _
   | exact spec_MadeStory.mono _ _ _ _
   | exact LeO.none _
   | refine LeO.ite ?_ ?_
   | refine LeO.bind ?_ (fun _ => ?_)
theorem laws_FnMadeStory.mono : ∀ a0 k, LeO (laws_FnMadeStory.f k a0) (laws_FnMadeStory.f (k + 1) a0) := by
 intro a0 k
 obtain ⟨ih0, ih1⟩ := laws_FnMadeStory.mono_l k
 unfold laws_FnMadeStory.f
 repeat' first
   | (with_reducible exact ih0 _ _ _ _ _ _)
   | (with_reducible exact ih1 _ _ _ _ _)
   | (with_reducible exact impl_MadeStory.mono _ _ _ _)
   | (with_reducible exact impl_StoryOk.mono _ _ _)
   | (with_reducible exact impl_StoryTable.mono _ _ _)
   | (with_reducible exact impl_WorldsIn.mono _ _ _)
   | (with_reducible exact laws_hasInt.mono _ _ _)
   | (with_reducible exact laws_sameMarks.mono _ _ _)
   | (with_reducible exact laws_sameStory.mono _ _ _)
   | (with_reducible exact spec_DrawMadeStory.mono _ _)
   | (with_reducible exact spec_MadeStory.mono _ _ _ _)
   | (with_reducible exact LeO.refl _)
   | (with_reducible exact LeO.none _)
   | (with_reducible refine LeO.ite ?_ ?_)
   | (with_reducible refine LeO.bind ?_ (fun _ => ?_))
   | exact ih0 _ _ _ _ _ _
   | exact ih1 _ _ _ _ _
   | exact impl_MadeStory.mono _ _ _ _
   | exact impl_StoryOk.mono _ _ _
   | exact impl_StoryTable.mono _ _ _
   | exact impl_WorldsIn.mono _ _ _
   | exact laws_hasInt.mono _ _ _
   | exact laws_sameMarks.mono _ _ _
   | exact laws_sameStory.mono _ _ _
   | exact spec_DrawMadeStory.mono _ _
   | exact spec_MadeStory.mono _ _ _ _
   | exact LeO.none _
   | refine LeO.ite ?_ ?_
   | refine LeO.bind ?_ (fun _ => ?_)
def laws_FnMadeStory.T14 : Bool × List (List Nat × List Nat) := (true, [([], []), ([], []), ([0, 1], [0, 1]), ([2], [2]), ([3], [3]), ([], []), ([4, 5], [4, 5]), ([6], [6]), ([7], [7]), ([7], [7]), ([8, 9, 7], [7, 8, 9]), ([10, 7], [7, 10]), ([11, 7], [7, 11]), ([7], [7]), ([7], [7]), ([13, 14, 7], [7, 13, 14]), ([15, 7], [7, 15]), ([12, 16, 7, 7], [7, 12, 16]), ([17, 7], [7, 17]), ([18, 17, 7], [7, 18]), ([19], [19]), ([19], [19]), ([20, 21, 19], [19, 20, 21]), ([22, 19], [19, 22]), ([23, 19], [19, 23]), ([19], [19]), ([24, 25, 19, 19], [19, 24, 25]), ([26, 19], [19, 26]), ([19, 27, 7], [7, 19, 27]), ([7, 28], [7, 28])])
def laws_FnMadeStory.B14 : List Nat := [0, 0, 3, 7, 15, 0, 63, 127, 255, 255, 1023, 2047, 4095, 255, 255, 24831, 57599, 131071, 262143, 524287, 1048575, 1048575, 4194303, 8388607, 16777215, 1048575, 67108863, 134217727, 268435455, 536870911]
theorem laws_FnMadeStory.tab14 : rtab .any (opsOf Try.f13 14) = laws_FnMadeStory.T14 := by kernel_rfl
theorem laws_FnMadeStory.bits14 : waitsOk laws_FnMadeStory.T14.2 laws_FnMadeStory.B14 = true := by kernel_rfl
set_option maxHeartbeats 8000000 in
set_option maxRecDepth 100000 in
theorem laws_FnMadeStory.calls (k : Nat) (A0 : Option Addr) (c0 : Nat) (l0 : List Int) (r : Bool) (w : World) (hr0 : Kd.C (Kd.int .u8) w A0 l0.length l0) (hc0 : l0.length ≤ c0) (h : laws_FnMadeStory.f k l0 = some r) :
  Calls Try.prog 13 #[.slice A0 l0.length c0] w fun e w' => e = .returned (.bool r) ∧ Below w.heap.size w w' := by
 have hu81 := Try.underlying81
 have HR0 := Aside0.mk hr0
 have HC0 := Aside0.mk hc0
 clear hr0 hc0
 have HB := Aside0.mk (Below.refl w.heap.size w)
 have H : (if (l0.length : Int) > 1048576 then (some true) else ((spec_DrawMadeStory.f k l0).bind fun bt336 => ((impl_MadeStory.f k bt336.1 bt336.2.1 bt336.2.2).bind fun bt341 => ((spec_MadeStory.f k bt336.1 bt336.2.1 bt336.2.2).bind fun bt345 => ((laws_sameStory.f k bt341.1 bt345.1).bind fun t349 => (if t349 = true then (laws_FnMadeStory.j0 k bt336.1 bt336.2.1 bt336.2.2 bt341.1 bt341.2 (bt341.2 != bt345.2)) else (laws_FnMadeStory.j0 k bt336.1 bt336.2.1 bt336.2.2 bt341.1 bt341.2 true))))))) = some r := h
 clear h
 by_cases c2 : (l0.length : Int) > 1048576
 ·rw [if_pos c2] at H
  have c2b0 : decide (1048576 < (l0.length : Int)) = true := decide_eq_true c2
  have c2b1 : decide (1048576 < l0.length) = true := decide_eq_true (by omega)
  clear c2
  obtain rfl := Option.some.inj H
  go_enter Try.func13, Try.ntmps13
  go_wp2
  go_ret
  exact ⟨by first | rfl | (simp [errW_none, errW_some] <;> rfl) | (simp [*, errW_none, errW_some] <;> rfl), below_at HB.out⟩
 rw [if_neg c2] at H
 have c2b0 : decide (1048576 < (l0.length : Int)) = false := decide_eq_false c2
 have c2b1 : decide (1048576 < l0.length) = false := decide_eq_false (by omega)
 clear c2
 replace H := Option.bind_eq_some_iff.mp H
 obtain ⟨⟨t336, t337, t338⟩, A30, H⟩ := H
 try dsimp only at H
 have A3 := Aside0.mk A30
 clear A30
 replace H := Option.bind_eq_some_iff.mp H
 obtain ⟨⟨t341, t342⟩, A40, H⟩ := H
 try dsimp only at H
 have A4 := Aside0.mk A40
 clear A40
 replace H := Option.bind_eq_some_iff.mp H
 obtain ⟨⟨t345, t346⟩, A50, H⟩ := H
 try dsimp only at H
 have A5 := Aside0.mk A50
 clear A50
 have HC6 := Aside0.mk H
 clear H
 go_enter Try.func13, Try.ntmps13
 go_upto_region 6 with (first | ((with_reducible refine gate_callee (f := 60) rfl ?_); refine goesL_ (some 17) rfl rfl Try.func60 (by kernel_rfl) rfl #[.slice A0 l0.length c0] rfl (by (try simp only [List.map_toArray, List.map_cons, List.map_nil]); first | done | rfl | (simp only [List.length_drop, List.length_take]; rfl)) ?_; (with_reducible refine (spec_DrawMadeStory.calls k _ _ l0 t336 t337 t338 _ ?side1 ?side2 A3.out).mono ?_); (case side1 => exact Kd.C_below HR0.out lt_); (case side2 => exact HC0.out); rintro e w7 ⟨v339, rfl, ho0, hb⟩; refine ⟨_, rfl, ?_⟩; have HO340 := Aside0.mk (Kd.S_lower ho0 (below_size (below_at HB.out))); replace HB := Aside0.mk (below_step (below_at HB.out) hb); (try clear hb); (try clear hb2); (try clear hk); (try clear hi); (try clear ho0); obtain ⟨Ao8, co8, eo8⟩ := Kd.S_slice HO340.out; subst eo8) | ((with_reducible refine gate_callee (f := 57) rfl ?_); refine goesL_ (some 25) rfl rfl Try.func57 (by kernel_rfl) rfl #[.int .i64 t336, .int .i64 t337, .slice Ao8 t338.length co8] rfl (by (try simp only [List.map_toArray, List.map_cons, List.map_nil]); first | done | rfl | (simp only [List.length_drop, List.length_take]; rfl)) ?_; (with_reducible refine (impl_MadeStory.calls k t336 t337 _ _ t338 t341 t342 _ ?side1 ?side2 A4.out).mono ?_); (case side1 => exact Kd.C_below (Kd.S_reads' HO340.out).2.2 lt_); (case side2 => exact (Kd.S_reads' HO340.out).2.1); rintro e w9 ⟨v343, rfl, ho0, hb⟩; refine ⟨_, rfl, ?_⟩; replace HO340 := Aside0.mk (Kd.S_below (Kd.S_below HO340.out lt_) hb); have HO344 := Aside0.mk (Kd.S_lower ho0 (below_size (below_at HB.out))); replace HB := Aside0.mk (below_step (below_at HB.out) hb); (try clear hb); (try clear hb2); (try clear hk); (try clear hi); (try clear ho0)) | ((with_reducible refine gate_callee (f := 55) rfl ?_); refine goesL_ (some 32) rfl rfl Try.func55 (by kernel_rfl) rfl #[.int .i64 t336, .int .i64 t337, .slice Ao8 t338.length co8] rfl (by (try simp only [List.map_toArray, List.map_cons, List.map_nil]); first | done | rfl | (simp only [List.length_drop, List.length_take]; rfl)) ?_; (with_reducible refine (spec_MadeStory.calls k t336 t337 _ _ t338 t345 t346 _ ?side1 ?side2 A5.out).mono ?_); (case side1 => exact Kd.C_below (Kd.S_reads' HO340.out).2.2 lt_); (case side2 => exact (Kd.S_reads' HO340.out).2.1); rintro e w10 ⟨v347, rfl, ho0, hb⟩; refine ⟨_, rfl, ?_⟩; replace HO340 := Aside0.mk (Kd.S_below (Kd.S_below HO340.out lt_) hb); have HO348 := Aside0.mk (Kd.S_lower (Kd.S_new' ho0 (Kd.S_lt (Kd.S_below HO344.out lt_))) (below_size (below_at HB.out))); replace HO344 := Aside0.mk (Kd.S_elder' (Kd.S_below HO344.out lt_) (Kd.S_base ho0) hb); replace HB := Aside0.mk (below_step (below_at HB.out) hb); (try clear hb); (try clear hb2); (try clear hk); (try clear hi); (try clear ho0)))
 (try simp only [Act.put, z0_, z1_, z2_])
 go_cut [43] (fun v43 wc => ∃ (kq : Nat) (x43_5 : Bool), v43 = .bool x43_5 ∧ Aside0 (laws_FnMadeStory.j0 kq t336 t337 t338 t341 t342 x43_5 = some r) ∧ Aside0 (kq ≤ k) ∧ Aside0 (Kd.S (Kd.slice 81 k81) 56 wc w.heap.size (fun _ => True) (.slice Ao8 t338.length co8) t338) ∧ Aside0 (Kd.S k83 83 wc w.heap.size (fun _ => True) v343 t341) ∧ Aside0 (Below w.heap.size w wc))
 case first =>
  have H := HC6.out
  clear HC6
  replace H := Option.bind_eq_some_iff.mp H
  obtain ⟨t349, A110, H⟩ := H
  try dsimp only at H
  have A11 := Aside0.mk A110
  clear A110
  by_cases c12 : t349 = true
  ·subst c12
   rw [if_pos rfl] at H
   have H' := Aside0.mk H
   clear H
   obtain ⟨Ao13, co13, eo13⟩ := Kd.S_slice HO344.out
   subst eo13
   obtain ⟨Ao14, co14, eo14⟩ := Kd.S_slice HO348.out
   subst eo14
   go_wp2_with (first | ((with_reducible refine gate_callee (f := 29) rfl ?_); refine goesL_ (some 37) rfl rfl Try.func29 (by kernel_rfl) rfl #[.slice Ao13 t341.length co13, .slice Ao14 t345.length co14] rfl (by (try simp only [List.map_toArray, List.map_cons, List.map_nil]); first | done | rfl | (simp only [List.length_drop, List.length_take]; rfl)) ?_; (with_reducible refine (laws_sameStory.calls k _ _ t341 _ _ t345 true _ ?side1 ?side2 ?side3 ?side4 A11.out).mono ?_); (case side1 => exact Kd.C_below (Kd.S_reads' HO344.out).2.2 lt_); (case side2 => exact (Kd.S_reads' HO344.out).2.1); (case side3 => exact Kd.C_below (Kd.S_reads' HO348.out).2.2 lt_); (case side4 => exact (Kd.S_reads' HO348.out).2.1); rintro e w15 ⟨rfl, hb⟩; refine ⟨_, rfl, ?_⟩; replace HO340 := Aside0.mk (Kd.S_below (Kd.S_below HO340.out lt_) hb); replace HO344 := Aside0.mk (Kd.S_below (Kd.S_below HO344.out lt_) hb); replace HB := Aside0.mk (below_step (below_at HB.out) hb); (try clear HO348); (try clear hb); (try clear hb2); (try clear hk); (try clear hi)))
   go_meet
   case rel => exact ⟨_, ((t342 != t346)), (by first | rfl | (simp; done) | (simp [*]; done)), H', ⟨by first | omega | exact Nat.le_refl _⟩, ⟨Kd.S_below HO340.out lt_⟩, ⟨Kd.S_below (Kd.S_mono HO344.out (fun _ hk => trivial)) lt_⟩, ⟨below_at HB.out⟩⟩
  replace c12 := Bool.eq_false_iff.mpr c12
  subst c12
  rw [if_neg (show ¬ (false = true) by decide)] at H
  have H' := Aside0.mk H
  clear H
  obtain ⟨Ao16, co16, eo16⟩ := Kd.S_slice HO344.out
  subst eo16
  obtain ⟨Ao17, co17, eo17⟩ := Kd.S_slice HO348.out
  subst eo17
  go_wp2_with (first | ((with_reducible refine gate_callee (f := 29) rfl ?_); refine goesL_ (some 37) rfl rfl Try.func29 (by kernel_rfl) rfl #[.slice Ao16 t341.length co16, .slice Ao17 t345.length co17] rfl (by (try simp only [List.map_toArray, List.map_cons, List.map_nil]); first | done | rfl | (simp only [List.length_drop, List.length_take]; rfl)) ?_; (with_reducible refine (laws_sameStory.calls k _ _ t341 _ _ t345 false _ ?side1 ?side2 ?side3 ?side4 A11.out).mono ?_); (case side1 => exact Kd.C_below (Kd.S_reads' HO344.out).2.2 lt_); (case side2 => exact (Kd.S_reads' HO344.out).2.1); (case side3 => exact Kd.C_below (Kd.S_reads' HO348.out).2.2 lt_); (case side4 => exact (Kd.S_reads' HO348.out).2.1); rintro e w18 ⟨rfl, hb⟩; refine ⟨_, rfl, ?_⟩; replace HO340 := Aside0.mk (Kd.S_below (Kd.S_below HO340.out lt_) hb); replace HO344 := Aside0.mk (Kd.S_below (Kd.S_below HO344.out lt_) hb); replace HB := Aside0.mk (below_step (below_at HB.out) hb); (try clear HO348); (try clear hb); (try clear hb2); (try clear hk); (try clear hi)))
  go_meet
  case rel => exact ⟨_, (true), (by first | rfl | (simp; done) | (simp [*]; done)), H', ⟨by first | omega | exact Nat.le_refl _⟩, ⟨Kd.S_below HO340.out lt_⟩, ⟨Kd.S_below (Kd.S_mono HO344.out (fun _ hk => trivial)) lt_⟩, ⟨below_at HB.out⟩⟩
 clear HC6
 try clear c1
 try clear c2
 try clear c2b0
 try clear c2b1
 try clear p2
 try clear c5
 try clear c6
 try clear c12
 try clear c13
 obtain ⟨kq, x43_5, rfl, HA, HJ5, HO_5, HO_6, HB⟩ := hcut
 cases kq with
 | zero => exact absurd HA.out (by simp [laws_FnMadeStory.j0])
 | succ kj5 =>
  have H := HA.out
  clear HA
  simp only [laws_FnMadeStory.j0] at H
  by_cases c19 : x43_5 = true
  ·subst c19
   rw [if_pos rfl] at H
   obtain rfl := Option.some.inj H
   go_wp2
   go_ret
   exact ⟨by first | rfl | (simp [errW_none, errW_some] <;> rfl) | (simp [*, errW_none, errW_some] <;> rfl), below_at HB.out⟩
  replace c19 := Bool.eq_false_iff.mpr c19
  subst c19
  rw [if_neg (show ¬ (false = true) by decide)] at H
  by_cases c20 : t342 = true
  rotate_left
  ·replace c20 := Bool.eq_false_iff.mpr c20
   subst c20
   rw [if_neg (show ¬ (false = true) by decide)] at H
   by_cases c72 : (t341.length : Int) = 0
   rotate_left
   ·rw [if_neg c72] at H
    have c72b0 : ((t341.length : Int) == 0) = false := beq_eq_false_iff_ne.mpr c72
    have c72b1 : ((t341.length : Int) != 0) = true := bne_iff_ne.mpr c72
    have c72b2 : ¬ (t341 = []) := fun h_ => c72 (by rw [h_]; rfl)
    obtain rfl := Option.some.inj H
    obtain ⟨Ao75, co75, eo75⟩ := Kd.S_slice HO_6.out
    subst eo75
    go_wp2
    go_ret
    exact ⟨by first | rfl | (simp [errW_none, errW_some] <;> rfl) | (simp [*, errW_none, errW_some] <;> rfl), below_at HB.out⟩
   rw [if_pos c72] at H
   have c72b0 : ((t341.length : Int) == 0) = true := beq_iff_eq.mpr c72
   have c72b1 : ((t341.length : Int) != 0) = false := bne_eq_false_iff_eq.mpr c72
   clear c72
   replace H := Option.bind_eq_some_iff.mp H
   obtain ⟨t350, A730, H⟩ := H
   replace H : (some t350) = some r := H
   have A73 := Aside0.mk A730
   clear A730
   obtain rfl := Option.some.inj H
   obtain ⟨Ao74, co74, eo74⟩ := Kd.S_slice HO_6.out
   subst eo74
   go_wp2_with (first | (go_at_call 17; (with_reducible refine (laws_alive.calls  t350 _ A73.out).mono ?_); rintro e w' ⟨rfl, ⟨nd, rfl⟩⟩))
   go_ret
   exact ⟨by first | rfl | (simp [errW_none, errW_some] <;> rfl) | (simp [*, errW_none, errW_some] <;> rfl), below_at HB.out⟩
  subst c20
  rw [if_pos rfl] at H
  have H' := Aside0.mk H
  clear H
  go_wp2
  go_loopg [10] kj5 (fun kq v10 w' => ∃ (x10_2 : Int), v10 = .int .i64 x10_2 ∧ Aside0 (laws_FnMadeStory.l0 kq t336 t337 t338 t341 x10_2 = some r) ∧ Aside0 (kq ≤ kj5) ∧ Aside0 (Kd.S (Kd.slice 81 k81) 56 w' w.heap.size (fun _ => True) (.slice Ao8 t338.length co8) t338) ∧ Aside0 (Kd.S k83 83 w' w.heap.size (fun _ => True) v343 t341) ∧ Aside0 (Below w.heap.size w w'))
  case atStart => exact ⟨(0), (by first | rfl | (simp; done) | (simp [*]; done)), H', ⟨Nat.le_refl _⟩, ⟨Kd.S_below HO_5.out lt_⟩, ⟨Kd.S_below HO_6.out lt_⟩, ⟨below_at HB.out⟩⟩
  clear H'
  try clear c1
  try clear c2
  try clear c2b0
  try clear c2b1
  try clear p2
  try clear c5
  try clear c6
  try clear c12
  try clear c13
  try clear c19
  try clear c20
  try clear p2
  obtain ⟨x10_2, rfl, HA, HK2, HO_5, HO_6, HB⟩ := hrel
  cases gk with
  | zero => exact absurd HA.out (by simp [laws_FnMadeStory.l0])
  | succ k2 =>
   have H := HA.out
   clear HA
   simp only [laws_FnMadeStory.l0] at H
   by_cases c21 : x10_2 < (t341.length : Int)
   rotate_left
   ·rw [if_neg c21] at H
    have c21b0 : decide (x10_2 < (t341.length : Int)) = false := decide_eq_false c21
    clear c21
    replace H := Option.bind_eq_some_iff.mp H
    obtain ⟨t367, A570, H⟩ := H
    try dsimp only at H
    have A57 := Aside0.mk A570
    clear A570
    by_cases c58 : t367 = true
    rotate_left
    ·replace c58 := Bool.eq_false_iff.mpr c58
     subst c58
     rw [if_neg (show ¬ (false = true) by decide)] at H
     obtain rfl := Option.some.inj H
     obtain ⟨Ao70, co70, eo70⟩ := Kd.S_slice HO_6.out
     subst eo70
     go_wp2_with (first | ((with_reducible refine gate_callee (f := 33) rfl ?_); refine goesL_ (some 99) rfl rfl Try.func33 (by kernel_rfl) rfl #[.int .i64 t336, .slice Ao70 t341.length co70] rfl (by (try simp only [List.map_toArray, List.map_cons, List.map_nil]); first | done | rfl | (simp only [List.length_drop, List.length_take]; rfl)) ?_; (with_reducible refine (impl_StoryOk.calls k2 t336 _ _ t341 false _ ?side1 ?side2 A57.out).mono ?_); (case side1 => exact Kd.C_below (Kd.S_reads' HO_6.out).2.2 lt_); (case side2 => exact (Kd.S_reads' HO_6.out).2.1); rintro e w71 ⟨rfl, hb⟩; refine ⟨_, rfl, ?_⟩; replace HB := Aside0.mk (below_step (below_at HB.out) hb); (try clear HO_5 HO_6); (try clear hb); (try clear hb2); (try clear hk); (try clear hi)))
     go_ret
     exact ⟨by first | rfl | (simp [errW_none, errW_some] <;> rfl) | (simp [*, errW_none, errW_some] <;> rfl), below_at HB.out⟩
    subst c58
    rw [if_pos rfl] at H
    by_cases c59 : (t341.length : Int) = (t338.length : Int)
    rotate_left
    ·rw [if_neg c59] at H
     have c59b0 : ((t341.length : Int) == (t338.length : Int)) = false := beq_eq_false_iff_ne.mpr c59
     have c59b1 : ((t341.length : Int) != (t338.length : Int)) = true := bne_iff_ne.mpr c59
     have c59b2 : (t341.length == t338.length) = false := by first | simpa using c59 | (simp at c59 ⊢; omega)
     obtain rfl := Option.some.inj H
     obtain ⟨Ao68, co68, eo68⟩ := Kd.S_slice HO_6.out
     subst eo68
     go_wp2_with (first | ((with_reducible refine gate_callee (f := 33) rfl ?_); refine goesL_ (some 99) rfl rfl Try.func33 (by kernel_rfl) rfl #[.int .i64 t336, .slice Ao68 t341.length co68] rfl (by (try simp only [List.map_toArray, List.map_cons, List.map_nil]); first | done | rfl | (simp only [List.length_drop, List.length_take]; rfl)) ?_; (with_reducible refine (impl_StoryOk.calls k2 t336 _ _ t341 true _ ?side1 ?side2 A57.out).mono ?_); (case side1 => exact Kd.C_below (Kd.S_reads' HO_6.out).2.2 lt_); (case side2 => exact (Kd.S_reads' HO_6.out).2.1); rintro e w69 ⟨rfl, hb⟩; refine ⟨_, rfl, ?_⟩; replace HB := Aside0.mk (below_step (below_at HB.out) hb); (try clear HO_5 HO_6); (try clear hb); (try clear hb2); (try clear hk); (try clear hi)))
     go_ret
     exact ⟨by first | rfl | (simp [errW_none, errW_some] <;> rfl) | (simp [*, errW_none, errW_some] <;> rfl), below_at HB.out⟩
    rw [if_pos c59] at H
    have c59b0 : ((t341.length : Int) == (t338.length : Int)) = true := beq_iff_eq.mpr c59
    have c59b1 : ((t341.length : Int) != (t338.length : Int)) = false := bne_eq_false_iff_eq.mpr c59
    have c59b2 : (t341.length == t338.length) = true := by first | simpa using c59 | (simp at c59 ⊢; omega)
    clear c59
    replace H := Option.bind_eq_some_iff.mp H
    obtain ⟨t368, A600, H⟩ := H
    try dsimp only at H
    have A60 := Aside0.mk A600
    clear A600
    replace H := Option.bind_eq_some_iff.mp H
    obtain ⟨t369, A610, H⟩ := H
    try dsimp only at H
    have A61 := Aside0.mk A610
    clear A610
    replace H := Option.bind_eq_some_iff.mp H
    obtain ⟨t372, A620, H⟩ := H
    replace H : (some t372) = some r := H
    have A62 := Aside0.mk A620
    clear A620
    obtain rfl := Option.some.inj H
    obtain ⟨Ao63, co63, eo63⟩ := Kd.S_slice HO_6.out
    subst eo63
    go_wp2_with (first | ((with_reducible refine gate_callee (f := 33) rfl ?_); refine goesL_ (some 99) rfl rfl Try.func33 (by kernel_rfl) rfl #[.int .i64 t336, .slice Ao63 t341.length co63] rfl (by (try simp only [List.map_toArray, List.map_cons, List.map_nil]); first | done | rfl | (simp only [List.length_drop, List.length_take]; rfl)) ?_; (with_reducible refine (impl_StoryOk.calls k2 t336 _ _ t341 true _ ?side1 ?side2 A57.out).mono ?_); (case side1 => exact Kd.C_below (Kd.S_reads' HO_6.out).2.2 lt_); (case side2 => exact (Kd.S_reads' HO_6.out).2.1); rintro e w64 ⟨rfl, hb⟩; refine ⟨_, rfl, ?_⟩; replace HO_6 := Aside0.mk (Kd.S_below (Kd.S_below HO_6.out lt_) hb); replace HB := Aside0.mk (below_step (below_at HB.out) hb); (try clear HO_5); (try clear hb); (try clear hb2); (try clear hk); (try clear hi)) | (go_at_call 31; (with_reducible refine (impl_StoryTable.calls k2 t336 _ _ t341 t368 _ ?side1 ?side2 A60.out).mono ?_); (case side1 => exact Kd.C_below (Kd.S_reads' HO_6.out).2.2 lt_); (case side2 => exact (Kd.S_reads' HO_6.out).2.1); rintro e w65 ⟨rfl, hb⟩; replace HB := Aside0.mk (below_step (below_at HB.out) hb); (try clear HO_5 HO_6); (try clear hb); (try clear hb2); (try clear hk); (try clear hi)) | (go_at_call 48; (with_reducible refine (impl_WorldsIn.calls k2 t336 t368 t369 _ A61.out).mono ?_); rintro e w66 ⟨v370, rfl, ho0, hb⟩; have HO371 := Aside0.mk (Kd.R_lower ho0 (below_size (below_at HB.out))); replace HB := Aside0.mk (below_step (below_at HB.out) hb); (try clear HO_5 HO_6); (try clear hb); (try clear hb2); (try clear hk); (try clear hi); (try clear ho0); obtain ⟨Ao67, co67, eo67⟩ := Kd.R_slice HO371.out; subst eo67) | (go_at_call 62; (with_reducible refine (laws_hasInt.calls k2 _ _ t369 t337 t372 _ ?side1 ?side2 A62.out).mono ?_); (case side1 => exact Kd.C_below (Kd.R_reads' HO371.out).2.2 lt_); (case side2 => exact (Kd.R_reads' HO371.out).2.1); rintro e w' ⟨rfl, ⟨nd, rfl⟩⟩))
    go_ret
    exact ⟨by first | rfl | (simp [errW_none, errW_some] <;> rfl) | (simp [*, errW_none, errW_some] <;> rfl), below_at HB.out⟩
   rw [if_pos c21] at H
   have c21b0 : decide (x10_2 < (t341.length : Int)) = true := decide_eq_true c21
   clear c21
   obtain ⟨y351, hy351⟩ : ∃ y_ : List (S81), y_ = (([] : List (S81))) := ⟨_, rfl⟩
   replace H : (if 0 ≤ x10_2 then (if x10_2 < (t338.length : Int) then (if y351.length + (rd_L2 t338 x10_2).length < 8796093022208 then ((some (y351 ++ (rd_L2 t338 x10_2) : List (S81))).bind fun y355 => (if y355.length < 8796093022208 then (if ((rd_T83 t341 x10_2).f0) = x10_2 then ((laws_sameMarks.f k2 ((rd_T83 t341 x10_2).f1) (rd_L2 t338 x10_2)).bind fun t364 => (if t364 = true then (laws_FnMadeStory.l0 k2 t336 t337 t338 t341 (wrap64 (x10_2 + 1))) else ((laws_sameMarks.f k2 ((rd_T83 t341 x10_2).f1) (y355 ++ [(⟨2, 0⟩ : S81)])).bind fun t366 => (if t366 = true then (laws_FnMadeStory.l0 k2 t336 t337 t338 t341 (wrap64 (x10_2 + 1))) else (some false))))) else (some false)) else (none))) else (none)) else (none)) else (none)) = some r := by first | (rw [hy351]; exact H) | exact H
   have Ny351 := Aside0.mk hy351
   clear hy351
   by_cases c22 : 0 ≤ x10_2
   rotate_left
   ·rw [if_neg c22] at H
    exact absurd H (by simp)
   rw [if_pos c22] at H
   have c22b0 : decide (0 ≤ x10_2) = true := decide_eq_true c22
   clear c22
   by_cases c23 : x10_2 < (t338.length : Int)
   rotate_left
   ·rw [if_neg c23] at H
    exact absurd H (by simp)
   rw [if_pos c23] at H
   have c23b0 : decide (x10_2 < (t338.length : Int)) = true := decide_eq_true c23
   clear c23
   by_cases c24 : y351.length + (rd_L2 t338 x10_2).length < 8796093022208
   rotate_left
   ·rw [if_neg c24] at H
    exact absurd H (by simp)
   rw [if_pos c24] at H
   have LMc24 := Aside0.mk c24
   clear c24
   obtain ⟨y355, hy355⟩ : ∃ y_ : List (S81), y_ = (y351 ++ (rd_L2 t338 x10_2)) := ⟨_, rfl⟩
   replace H : (if y355.length < 8796093022208 then (if ((rd_T83 t341 x10_2).f0) = x10_2 then ((laws_sameMarks.f k2 ((rd_T83 t341 x10_2).f1) (rd_L2 t338 x10_2)).bind fun t364 => (if t364 = true then (laws_FnMadeStory.l0 k2 t336 t337 t338 t341 (wrap64 (x10_2 + 1))) else ((laws_sameMarks.f k2 ((rd_T83 t341 x10_2).f1) (y355 ++ [(⟨2, 0⟩ : S81)])).bind fun t366 => (if t366 = true then (laws_FnMadeStory.l0 k2 t336 t337 t338 t341 (wrap64 (x10_2 + 1))) else (some false))))) else (some false)) else (none)) = some r := by first | (rw [hy355]; exact H) | exact H
   have Ny355 := Aside0.mk hy355
   clear hy355
   by_cases c25 : y355.length < 8796093022208
   rotate_left
   ·rw [if_neg c25] at H
    exact absurd H (by simp)
   rw [if_pos c25] at H
   have LMc25 := Aside0.mk c25
   clear c25
   obtain ⟨y358, hy358⟩ : ∃ y_ : List (S81), y_ = (y355 ++ [(⟨2, 0⟩ : S81)]) := ⟨_, rfl⟩
   replace H : (if ((rd_T83 t341 x10_2).f0) = x10_2 then ((laws_sameMarks.f k2 ((rd_T83 t341 x10_2).f1) (rd_L2 t338 x10_2)).bind fun t364 => (if t364 = true then (laws_FnMadeStory.l0 k2 t336 t337 t338 t341 (wrap64 (x10_2 + 1))) else ((laws_sameMarks.f k2 ((rd_T83 t341 x10_2).f1) y358).bind fun t366 => (if t366 = true then (laws_FnMadeStory.l0 k2 t336 t337 t338 t341 (wrap64 (x10_2 + 1))) else (some false))))) else (some false)) = some r := by first | (rw [hy358]; exact H) | exact H
   have Ny358 := Aside0.mk hy358
   clear hy358
   by_cases c26 : ((rd_T83 t341 x10_2).f0) = x10_2
   rotate_left
   ·rw [if_neg c26] at H
    have c26b0 : (((rd_T83 t341 x10_2).f0) == x10_2) = false := beq_eq_false_iff_ne.mpr c26
    have c26b1 : (((rd_T83 t341 x10_2).f0) != x10_2) = true := bne_iff_ne.mpr c26
    obtain rfl := Option.some.inj H
    obtain ⟨Ao51, co51, eo51⟩ := Kd.S_slice HO_6.out
    subst eo51
    try go_wp2_with (first | ((with_reducible refine gate_dst (N := 58) rfl ?_); (try (refine gate_guard (by rfl) ?_; dsimp only)); refine Kd.R_lit k81 _ 81 ?hg (N := 58) ?hd (xs := ([] : List (S81))) (inner := []) (ok := fun _ => True) (okp := fun _ => True) ?hr ?hp (fun _ hk => hk) trivial (Below.refl _ _) (Nat.le_refl _) (by simp) ?_; (case hd => rfl); (case hg => rfl); (case hr => first | (go_simp; done) | (go_simp; rfl)); (case hp => exact (Reps.none _ _)); intro v352 w52 ho53 hb hg_ hnew_; clear hg_ hnew_; (first | rw [← Ny351.out] at ho53 | (simp only [Int.reduceToNat] at ho53; rw [← Ny351.out] at ho53)); replace HO_5 := Aside0.mk (Kd.S_elder' (Kd.S_below HO_5.out lt_) (Kd.R_base ho53) hb); replace HO_6 := Aside0.mk (Kd.S_elder' (Kd.S_below HO_6.out lt_) (Kd.R_base ho53) hb); have HO353 := Aside0.mk (Kd.R_lower ho53 (below_size (below_at HB.out))); replace HB := Aside0.mk (below_step (below_at HB.out) hb); clear hb ho53; have p354 : 0 ≤ (x10_2 : Int) := of_decide_eq_true (by assumption); have q354 : x10_2 < (t338.length : Int) := of_decide_eq_true (by assumption); obtain ⟨ad354, A354_0, c354_0, e354, hx354_0, hl354_0, hi354_0⟩ := at_L2 (Kd.S_reads' HO_5.out).2.2 x10_2 p354 q354; cases e354; obtain ⟨ce354, hce354, hMe354, hcc354⟩ := Kd.S_get HO_5.out [] x10_2 p354 (by first | exact q354 | exact of_decide_eq_true (by assumption) | (have e_ := (Kd.S_reads' HO_5.out).1; omega)); obtain ⟨ve354_0, rfl, ge354_0⟩ := hMe354; have hv354_0 := hcc354 0 _ rfl; rw [Nat.add_zero, show ((Kd.slice 81 k81)).sz = 1 from rfl, Nat.mul_one] at hv354_0; replace hv354_0 := Option.some.inj (hv354_0.symm.trans hx354_0); rw [hv354_0] at ge354_0; have HL354_0 := Aside0.mk (show Kd.R k81 81 _ _ _ _ (rd_L2 t338 x10_2) from ge354_0); clear hv354_0 ge354_0; clear hcc354 hce354; have HR354_0 := Aside0.mk hi354_0; have HC354_0 := Aside0.mk hl354_0; clear hi354_0 hl354_0; replace p354 := eq_true p354; replace q354 := eq_true q354) | ((with_reducible refine gate_builtin (b := .append) (xs := #[.tmp 58, .tmp 62]) rfl ?_); (try (refine gate_guard (by rfl) ?_; dsimp only)); at_builtin; refine Kd.R_append_rows k81 (w0 := w) w.heap.size rfl (.tmp 58) (.tmp 62) 56 81 (.agg #[(.int .i64 0), (.int .i64 0)]) 16 rfl Try.underlying56 info81 rfl (by decide) (by omega) v352 y351 (rd_L2 t338 x10_2) _ _ _ (fun _ => True) (fun _ => False) rfl rfl ?aO ?aR (fun _ _ h => h) (fun _ h => h.elim) ?aF ?aB ?aS ?aL ?_; (case aR => exact Kd.C_below HR354_0.out lt_); (case aB => exact (below_at HB.out)); (case aF => exact (fun _ _ => trivial)); (case aO => exact (Kd.R_below HO353.out lt_)); (case aS => exact (below_size (below_at HB.out))); (case aL => have := LMc24.out; omega); intro v356 w54 ho hb hg hat; rw [← Ny355.out] at ho; replace HO_6 := Aside0.mk (Kd.S_after (ok := (fun _ => True)) (Kd.S_below HO_6.out lt_) hg hat); replace HB := Aside0.mk (hb); have HO357 := Aside0.mk (ho); (try clear HO_5 HL354_0 HO353); clear ho hb hg hat) | ((with_reducible refine gate_builtin (b := .append) (xs := #[.tmp 63, .tmp 65]) rfl ?_); (try (refine gate_guard (by rfl) ?_; dsimp only)); at_builtin; refine Kd.R_append k81 (w0 := w) w.heap.size rfl (.tmp 63) (.tmp 65) 56 81 (.agg #[(.int .i64 0), (.int .i64 0)]) 16 rfl Try.underlying56 info81 rfl (by decide) (by omega) v356 y355 (⟨2, 0⟩ : S81) [.int .i64 2, .int .i64 0] (fun _ => True) (fun _ => False) rfl rfl ?aP (fun _ hk => hk.elim) ?aF ?aO ?aB ?aS ?aL ?_; (case aP => exact k81_mkM _ _ _ (⟨2, 0⟩ : S81)); (case aB => exact (below_at HB.out)); (case aF => exact (fun _ _ => trivial)); (case aO => exact (Kd.R_below HO357.out lt_)); (case aS => exact (below_size (below_at HB.out))); (case aL => have := LMc25.out; omega); intro v359 w55 ho hb hg hat; rw [← Ny358.out] at ho; replace HO_6 := Aside0.mk (Kd.S_after (ok := (fun _ => True)) (Kd.S_below HO_6.out lt_) hg hat); replace HB := Aside0.mk (hb); (try clear HO_5 HL354_0 HO357); clear ho hb hg hat))
    replace HO_6 := Aside0.mk (Kd.S_drew HO_6.out)
    replace HB := Aside0.mk (below_drew1 HB.out)
    (try clear HO_5 HL354_0 HO360)
    have p361 : 0 ≤ (x10_2 : Int) := of_decide_eq_true (by assumption)
    have q361 : x10_2 < (t341.length : Int) := of_decide_eq_true (by assumption)
    obtain ⟨ad361, A361_1, c361_1, e361, hx361_0, hx361_1, hl361_1, hi361_1⟩ := at_T83 (Kd.S_reads' HO_6.out).2.2 x10_2 p361 q361
    cases e361
    obtain ⟨ce361, hce361, hMe361, hcc361⟩ := Kd.S_get HO_6.out z83 x10_2 p361 (by first | exact q361 | exact of_decide_eq_true (by assumption) | (have e_ := (Kd.S_reads' HO_6.out).1; omega))
    obtain ⟨ve361_1, rfl, ge361_1⟩ := k83_openM hMe361
    have hv361_1 := hcc361 1 _ rfl
    rw [add_field _ _ 1 (by omega)] at hv361_1
    replace hv361_1 := Option.some.inj (hv361_1.symm.trans hx361_1)
    rw [hv361_1] at ge361_1
    have HL361_1 := Aside0.mk (show Kd.R k81 81 _ _ _ _ ((rd_T83 t341 x10_2).f1) from ge361_1)
    clear hv361_1 ge361_1
    clear hcc361 hce361
    have HR361_1 := Aside0.mk hi361_1
    have HC361_1 := Aside0.mk hl361_1
    clear hi361_1 hl361_1
    replace p361 := eq_true p361
    replace q361 := eq_true q361
    refine start_ (n := 30) (S := fun w' => w'.cell? (ad361.add ((x10_2).toNat * 2)) = some (.int .i64 ((rd_T83 t341 x10_2).f0)) ∧ w'.cell? ⟨(ad361.add ((x10_2).toNat * 2)).block, (ad361.add ((x10_2).toNat * 2)).off + 1, none⟩ = some (.slice A361_1 ((rd_T83 t341 x10_2).f1).length c361_1)) (ds := []) #[false, false, false, false, false, false, false, false, false, false, false, false, false, false, false, false, false, false, false, false, false, false, false, false, false, false, false, false, false, false] (by kernel_rfl) rfl rfl ⟨hx361_0, hx361_1⟩ (fun hHeld => ?_); refine with_tabW laws_FnMadeStory.tab14 laws_FnMadeStory.bits14 (fun HT_ HW_ => ?_)
    generalize w55.drew = w56 at HB HR361_1 hx361_0 hx361_1 hHeld ⊢
    refine pure_ (i := 0) (N := some 67) (v := ?_) (a' := ?_) #[true, false, false, false, false, false, false, false, false, false, false, false, false, false, false, false, false, false, false, false, false, false, false, false, false, false, false, false, false, false] rfl rfl (any_of HT_.out (by kernel_rfl)) (fun _ _ _ h => h) (Or.inl ⟨by rfl, ?_⟩) ?_ ?_
    rotate_left
    ·intro w'
     go_simp
     with_reducible rfl
    rotate_left
    ·simp only [Act.put, z0_, z1_, z2_, i64_w, i32_w]
     rfl
    refine pure_ (i := 1) (N := some 68) (v := ?_) (a' := ?_) #[true, true, false, false, false, false, false, false, false, false, false, false, false, false, false, false, false, false, false, false, false, false, false, false, false, false, false, false, false, false] rfl rfl (any_of HT_.out (by kernel_rfl)) (fun _ _ _ h => h) (Or.inl ⟨by rfl, ?_⟩) ?_ ?_
    rotate_left
    ·intro w'
     go_simp
     with_reducible rfl
    rotate_left
    ·simp only [Act.put, z0_, z1_, z2_, i64_w, i32_w]
     rfl
    refine pure_ (i := 2) (N := some 69) (v := ?_) (a' := ?_) #[true, true, true, false, false, false, false, false, false, false, false, false, false, false, false, false, false, false, false, false, false, false, false, false, false, false, false, false, false, false] rfl rfl (any_of HT_.out (by kernel_rfl)) (fun _ _ _ h => h) (Or.inl ⟨by rfl, ?_⟩) ?_ ?_
    rotate_left
    ·intro w'
     go_simp
     with_reducible rfl
    rotate_left
    ·simp only [Act.put, z0_, z1_, z2_, i64_w, i32_w]
     rfl
    refine pure_ (i := 3) (N := some 70) (v := ?_) (a' := ?_) #[true, true, true, true, false, false, false, false, false, false, false, false, false, false, false, false, false, false, false, false, false, false, false, false, false, false, false, false, false, false] rfl rfl (any_of HT_.out (by kernel_rfl)) (fun _ _ _ h => h) (Or.inl ⟨by rfl, ?_⟩) ?_ ?_
    rotate_left
    ·intro w'
     go_simp
     with_reducible rfl
    rotate_left
    ·simp only [Act.put, z0_, z1_, z2_, i64_w, i32_w]
     rfl
    refine pure_ (i := 5) (N := some 72) (v := ?_) (a' := ?_) #[true, true, true, true, false, true, false, false, false, false, false, false, false, false, false, false, false, false, false, false, false, false, false, false, false, false, false, false, false, false] rfl rfl (any_of HT_.out (by kernel_rfl)) (fun _ _ _ h => h) (Or.inl ⟨by rfl, ?_⟩) ?_ ?_
    rotate_left
    ·intro w'
     go_simp
     with_reducible rfl
    rotate_left
    ·simp only [Act.put, z0_, z1_, z2_, i64_w, i32_w]
     rfl
    refine take_ (i := 4) (N := some 71) (v := ?_) (a' := ?_) #[true, true, true, true, true, true, false, false, false, false, false, false, false, false, false, false, false, false, false, false, false, false, false, false, false, false, false, false, false, false] rfl rfl (take_ofW HT_.out HW_.out (by kernel_rfl)) (fun _ _ _ h => h) (Or.inl ⟨by rfl, ?_⟩) hHeld ?_ ?_
    rotate_left
    ·rintro w' ⟨s0, s1⟩
     go_simp
     with_reducible rfl
    rotate_left
    ·simp only [Act.put, z0_, z1_, z2_, i64_w, i32_w]
     rfl
    refine pure_ (i := 6) (N := some 73) (v := ?_) (a' := ?_) #[true, true, true, true, true, true, true, false, false, false, false, false, false, false, false, false, false, false, false, false, false, false, false, false, false, false, false, false, false, false] rfl rfl (any_of HT_.out (by kernel_rfl)) (fun _ _ _ h => h) (Or.inl ⟨by rfl, ?_⟩) ?_ ?_
    rotate_left
    ·intro w'
     go_simp
     with_reducible rfl
    rotate_left
    ·simp only [Act.put, z0_, z1_, z2_, i64_w, i32_w]
     rfl
    refine pure_ (i := 7) (N := some 74) (v := ?_) (a' := ?_) #[true, true, true, true, true, true, true, true, false, false, false, false, false, false, false, false, false, false, false, false, false, false, false, false, false, false, false, false, false, false] rfl rfl (any_of HT_.out (by kernel_rfl)) (fun _ _ _ h => h) (Or.inl ⟨by rfl, ?_⟩) ?_ ?_
    rotate_left
    ·intro w'
     go_simp
     with_reducible rfl
    rotate_left
    ·simp only [Act.put, z0_, z1_, z2_, i64_w, i32_w]
     rfl
    refine pure_ (i := 8) (N := some 75) (v := undef) (a' := ?_) #[true, true, true, true, true, true, true, true, true, false, false, false, false, false, false, false, false, false, false, false, false, false, false, false, false, false, false, false, false, false] rfl rfl (any_of HT_.out (by kernel_rfl)) (fun _ _ _ h => h) (Or.inr ⟨by rfl, rfl⟩) ?_ ?_
    rotate_left
    ·simp only [Act.put, z0_, z1_, z2_, i64_w, i32_w]
     rfl
    refine pure_ (i := 9) (N := some 76) (v := undef) (a' := ?_) #[true, true, true, true, true, true, true, true, true, true, false, false, false, false, false, false, false, false, false, false, false, false, false, false, false, false, false, false, false, false] rfl rfl (any_of HT_.out (by kernel_rfl)) (fun _ _ _ h => h) (Or.inr ⟨by rfl, rfl⟩) ?_ ?_
    rotate_left
    ·simp only [Act.put, z0_, z1_, z2_, i64_w, i32_w]
     rfl
    refine pure_ (i := 10) (N := some 77) (v := undef) (a' := ?_) #[true, true, true, true, true, true, true, true, true, true, true, false, false, false, false, false, false, false, false, false, false, false, false, false, false, false, false, false, false, false] rfl rfl (any_of HT_.out (by kernel_rfl)) (fun _ _ _ h => h) (Or.inr ⟨by rfl, rfl⟩) ?_ ?_
    rotate_left
    ·simp only [Act.put, z0_, z1_, z2_, i64_w, i32_w]
     rfl
    refine pure_ (i := 11) (N := some 78) (v := undef) (a' := ?_) #[true, true, true, true, true, true, true, true, true, true, true, true, false, false, false, false, false, false, false, false, false, false, false, false, false, false, false, false, false, false] rfl rfl (any_of HT_.out (by kernel_rfl)) (fun _ _ _ h => h) (Or.inr ⟨by rfl, rfl⟩) ?_ ?_
    rotate_left
    ·simp only [Act.put, z0_, z1_, z2_, i64_w, i32_w]
     rfl
    refine pure_ (i := 12) (N := some 79) (v := undef) (a' := ?_) #[true, true, true, true, true, true, true, true, true, true, true, true, true, false, false, false, false, false, false, false, false, false, false, false, false, false, false, false, false, false] rfl rfl (any_of HT_.out (by kernel_rfl)) (fun _ _ _ h => h) (Or.inr ⟨by rfl, rfl⟩) ?_ ?_
    rotate_left
    ·simp only [Act.put, z0_, z1_, z2_, i64_w, i32_w]
     rfl
    refine pure_ (i := 13) (N := some 80) (v := undef) (a' := ?_) #[true, true, true, true, true, true, true, true, true, true, true, true, true, true, false, false, false, false, false, false, false, false, false, false, false, false, false, false, false, false] rfl rfl (any_of HT_.out (by kernel_rfl)) (fun _ _ _ h => h) (Or.inr ⟨by rfl, rfl⟩) ?_ ?_
    rotate_left
    ·simp only [Act.put, z0_, z1_, z2_, i64_w, i32_w]
     rfl
    refine pure_ (i := 14) (N := some 81) (v := undef) (a' := ?_) #[true, true, true, true, true, true, true, true, true, true, true, true, true, true, true, false, false, false, false, false, false, false, false, false, false, false, false, false, false, false] rfl rfl (any_of HT_.out (by kernel_rfl)) (fun _ _ _ h => h) (Or.inr ⟨by rfl, rfl⟩) ?_ ?_
    rotate_left
    ·simp only [Act.put, z0_, z1_, z2_, i64_w, i32_w]
     rfl
    refine pure_ (i := 15) (N := some 82) (v := undef) (a' := ?_) #[true, true, true, true, true, true, true, true, true, true, true, true, true, true, true, true, false, false, false, false, false, false, false, false, false, false, false, false, false, false] rfl rfl (any_of HT_.out (by kernel_rfl)) (fun _ _ _ h => h) (Or.inr ⟨by rfl, rfl⟩) ?_ ?_
    rotate_left
    ·simp only [Act.put, z0_, z1_, z2_, i64_w, i32_w]
     rfl
    refine pure_ (i := 16) (N := some 83) (v := undef) (a' := ?_) #[true, true, true, true, true, true, true, true, true, true, true, true, true, true, true, true, true, false, false, false, false, false, false, false, false, false, false, false, false, false] rfl rfl (any_of HT_.out (by kernel_rfl)) (fun _ _ _ h => h) (Or.inr ⟨by rfl, rfl⟩) ?_ ?_
    rotate_left
    ·simp only [Act.put, z0_, z1_, z2_, i64_w, i32_w]
     rfl
    refine pure_ (i := 17) (N := some 84) (v := undef) (a' := ?_) #[true, true, true, true, true, true, true, true, true, true, true, true, true, true, true, true, true, true, false, false, false, false, false, false, false, false, false, false, false, false] rfl rfl (any_of HT_.out (by kernel_rfl)) (fun _ _ _ h => h) (Or.inr ⟨by rfl, rfl⟩) ?_ ?_
    rotate_left
    ·simp only [Act.put, z0_, z1_, z2_, i64_w, i32_w]
     rfl
    refine pure_ (i := 18) (N := some 85) (v := undef) (a' := ?_) #[true, true, true, true, true, true, true, true, true, true, true, true, true, true, true, true, true, true, true, false, false, false, false, false, false, false, false, false, false, false] rfl rfl (any_of HT_.out (by kernel_rfl)) (fun _ _ _ h => h) (Or.inr ⟨by rfl, rfl⟩) ?_ ?_
    rotate_left
    ·simp only [Act.put, z0_, z1_, z2_, i64_w, i32_w]
     rfl
    refine pure_ (i := 19) (N := some 86) (v := undef) (a' := ?_) #[true, true, true, true, true, true, true, true, true, true, true, true, true, true, true, true, true, true, true, true, false, false, false, false, false, false, false, false, false, false] rfl rfl (any_of HT_.out (by kernel_rfl)) (fun _ _ _ h => h) (Or.inr ⟨by rfl, rfl⟩) ?_ ?_
    rotate_left
    ·simp only [Act.put, z0_, z1_, z2_, i64_w, i32_w]
     rfl
    refine pure_ (i := 20) (N := some 87) (v := undef) (a' := ?_) #[true, true, true, true, true, true, true, true, true, true, true, true, true, true, true, true, true, true, true, true, true, false, false, false, false, false, false, false, false, false] rfl rfl (any_of HT_.out (by kernel_rfl)) (fun _ _ _ h => h) (Or.inr ⟨by rfl, rfl⟩) ?_ ?_
    rotate_left
    ·simp only [Act.put, z0_, z1_, z2_, i64_w, i32_w]
     rfl
    refine pure_ (i := 21) (N := some 88) (v := undef) (a' := ?_) #[true, true, true, true, true, true, true, true, true, true, true, true, true, true, true, true, true, true, true, true, true, true, false, false, false, false, false, false, false, false] rfl rfl (any_of HT_.out (by kernel_rfl)) (fun _ _ _ h => h) (Or.inr ⟨by rfl, rfl⟩) ?_ ?_
    rotate_left
    ·simp only [Act.put, z0_, z1_, z2_, i64_w, i32_w]
     rfl
    refine pure_ (i := 22) (N := some 89) (v := undef) (a' := ?_) #[true, true, true, true, true, true, true, true, true, true, true, true, true, true, true, true, true, true, true, true, true, true, true, false, false, false, false, false, false, false] rfl rfl (any_of HT_.out (by kernel_rfl)) (fun _ _ _ h => h) (Or.inr ⟨by rfl, rfl⟩) ?_ ?_
    rotate_left
    ·simp only [Act.put, z0_, z1_, z2_, i64_w, i32_w]
     rfl
    refine pure_ (i := 23) (N := some 90) (v := undef) (a' := ?_) #[true, true, true, true, true, true, true, true, true, true, true, true, true, true, true, true, true, true, true, true, true, true, true, true, false, false, false, false, false, false] rfl rfl (any_of HT_.out (by kernel_rfl)) (fun _ _ _ h => h) (Or.inr ⟨by rfl, rfl⟩) ?_ ?_
    rotate_left
    ·simp only [Act.put, z0_, z1_, z2_, i64_w, i32_w]
     rfl
    refine pure_ (i := 24) (N := some 91) (v := undef) (a' := ?_) #[true, true, true, true, true, true, true, true, true, true, true, true, true, true, true, true, true, true, true, true, true, true, true, true, true, false, false, false, false, false] rfl rfl (any_of HT_.out (by kernel_rfl)) (fun _ _ _ h => h) (Or.inr ⟨by rfl, rfl⟩) ?_ ?_
    rotate_left
    ·simp only [Act.put, z0_, z1_, z2_, i64_w, i32_w]
     rfl
    refine pure_ (i := 25) (N := some 92) (v := undef) (a' := ?_) #[true, true, true, true, true, true, true, true, true, true, true, true, true, true, true, true, true, true, true, true, true, true, true, true, true, true, false, false, false, false] rfl rfl (any_of HT_.out (by kernel_rfl)) (fun _ _ _ h => h) (Or.inr ⟨by rfl, rfl⟩) ?_ ?_
    rotate_left
    ·simp only [Act.put, z0_, z1_, z2_, i64_w, i32_w]
     rfl
    refine pure_ (i := 26) (N := some 93) (v := undef) (a' := ?_) #[true, true, true, true, true, true, true, true, true, true, true, true, true, true, true, true, true, true, true, true, true, true, true, true, true, true, true, false, false, false] rfl rfl (any_of HT_.out (by kernel_rfl)) (fun _ _ _ h => h) (Or.inr ⟨by rfl, rfl⟩) ?_ ?_
    rotate_left
    ·simp only [Act.put, z0_, z1_, z2_, i64_w, i32_w]
     rfl
    refine pure_ (i := 27) (N := some 94) (v := undef) (a' := ?_) #[true, true, true, true, true, true, true, true, true, true, true, true, true, true, true, true, true, true, true, true, true, true, true, true, true, true, true, true, false, false] rfl rfl (any_of HT_.out (by kernel_rfl)) (fun _ _ _ h => h) (Or.inr ⟨by rfl, rfl⟩) ?_ ?_
    rotate_left
    ·simp only [Act.put, z0_, z1_, z2_, i64_w, i32_w]
     rfl
    refine pure_ (i := 28) (N := some 95) (v := undef) (a' := ?_) #[true, true, true, true, true, true, true, true, true, true, true, true, true, true, true, true, true, true, true, true, true, true, true, true, true, true, true, true, true, false] rfl rfl (any_of HT_.out (by kernel_rfl)) (fun _ _ _ h => h) (Or.inr ⟨by rfl, rfl⟩) ?_ ?_
    rotate_left
    ·simp only [Act.put, z0_, z1_, z2_, i64_w, i32_w]
     rfl
    refine pure_ (i := 29) (N := some 96) (v := ?_) (a' := ?_) #[true, true, true, true, true, true, true, true, true, true, true, true, true, true, true, true, true, true, true, true, true, true, true, true, true, true, true, true, true, true] rfl rfl (any_of HT_.out (by kernel_rfl)) (fun _ _ _ h => h) (Or.inl ⟨by rfl, ?_⟩) ?_ ?_
    rotate_left
    ·intro w'
     go_simp
     with_reducible rfl
    rotate_left
    ·simp only [Act.put, z0_, z1_, z2_, i64_w, i32_w]
     rfl
    refine done_ (done_of HT_.out (by kernel_rfl)) ?_
    try go_wp2
    go_ret
    exact ⟨by first | rfl | (simp [errW_none, errW_some] <;> rfl) | (simp [*, errW_none, errW_some] <;> rfl), below_at HB.out⟩
   rw [if_pos c26] at H
   have c26b0 : (((rd_T83 t341 x10_2).f0) == x10_2) = true := beq_iff_eq.mpr c26
   have c26b1 : (((rd_T83 t341 x10_2).f0) != x10_2) = false := bne_eq_false_iff_eq.mpr c26
   clear c26
   replace H := Option.bind_eq_some_iff.mp H
   obtain ⟨t364, A270, H⟩ := H
   try dsimp only at H
   have A27 := Aside0.mk A270
   clear A270
   by_cases c28 : t364 = true
   ·subst c28
    rw [if_pos rfl] at H
    have H' := Aside0.mk H
    clear H
    obtain ⟨Ao29, co29, eo29⟩ := Kd.S_slice HO_6.out
    subst eo29
    try go_wp2_with (first | ((with_reducible refine gate_dst (N := 58) rfl ?_); (try (refine gate_guard (by rfl) ?_; dsimp only)); refine Kd.R_lit k81 _ 81 ?hg (N := 58) ?hd (xs := ([] : List (S81))) (inner := []) (ok := fun _ => True) (okp := fun _ => True) ?hr ?hp (fun _ hk => hk) trivial (Below.refl _ _) (Nat.le_refl _) (by simp) ?_; (case hd => rfl); (case hg => rfl); (case hr => first | (go_simp; done) | (go_simp; rfl)); (case hp => exact (Reps.none _ _)); intro v352 w30 ho31 hb hg_ hnew_; clear hg_ hnew_; (first | rw [← Ny351.out] at ho31 | (simp only [Int.reduceToNat] at ho31; rw [← Ny351.out] at ho31)); replace HO_5 := Aside0.mk (Kd.S_elder' (Kd.S_below HO_5.out lt_) (Kd.R_base ho31) hb); replace HO_6 := Aside0.mk (Kd.S_elder' (Kd.S_below HO_6.out lt_) (Kd.R_base ho31) hb); have HO353 := Aside0.mk (Kd.R_lower ho31 (below_size (below_at HB.out))); replace HB := Aside0.mk (below_step (below_at HB.out) hb); clear hb ho31; have p354 : 0 ≤ (x10_2 : Int) := of_decide_eq_true (by assumption); have q354 : x10_2 < (t338.length : Int) := of_decide_eq_true (by assumption); obtain ⟨ad354, A354_0, c354_0, e354, hx354_0, hl354_0, hi354_0⟩ := at_L2 (Kd.S_reads' HO_5.out).2.2 x10_2 p354 q354; cases e354; obtain ⟨ce354, hce354, hMe354, hcc354⟩ := Kd.S_get HO_5.out [] x10_2 p354 (by first | exact q354 | exact of_decide_eq_true (by assumption) | (have e_ := (Kd.S_reads' HO_5.out).1; omega)); obtain ⟨ve354_0, rfl, ge354_0⟩ := hMe354; have hv354_0 := hcc354 0 _ rfl; rw [Nat.add_zero, show ((Kd.slice 81 k81)).sz = 1 from rfl, Nat.mul_one] at hv354_0; replace hv354_0 := Option.some.inj (hv354_0.symm.trans hx354_0); rw [hv354_0] at ge354_0; have HL354_0 := Aside0.mk (show Kd.R k81 81 _ _ _ _ (rd_L2 t338 x10_2) from ge354_0); clear hv354_0 ge354_0; clear hcc354 hce354; have HR354_0 := Aside0.mk hi354_0; have HC354_0 := Aside0.mk hl354_0; clear hi354_0 hl354_0; replace p354 := eq_true p354; replace q354 := eq_true q354) | ((with_reducible refine gate_builtin (b := .append) (xs := #[.tmp 58, .tmp 62]) rfl ?_); (try (refine gate_guard (by rfl) ?_; dsimp only)); at_builtin; refine Kd.R_append_rows k81 (w0 := w) w.heap.size rfl (.tmp 58) (.tmp 62) 56 81 (.agg #[(.int .i64 0), (.int .i64 0)]) 16 rfl Try.underlying56 info81 rfl (by decide) (by omega) v352 y351 (rd_L2 t338 x10_2) _ _ _ (fun _ => True) (fun _ => False) rfl rfl ?aO ?aR (fun _ _ h => h) (fun _ h => h.elim) ?aF ?aB ?aS ?aL ?_; (case aR => exact Kd.C_below HR354_0.out lt_); (case aB => exact (below_at HB.out)); (case aF => exact (fun _ _ => trivial)); (case aO => exact (Kd.R_below HO353.out lt_)); (case aS => exact (below_size (below_at HB.out))); (case aL => have := LMc24.out; omega); intro v356 w32 ho hb hg hat; rw [← Ny355.out] at ho; replace HO_5 := Aside0.mk (Kd.S_after (ok := (fun _ => True)) (Kd.S_below HO_5.out lt_) hg hat); replace HO_6 := Aside0.mk (Kd.S_after (ok := (fun _ => True)) (Kd.S_below HO_6.out lt_) hg hat); replace HB := Aside0.mk (hb); have HO357 := Aside0.mk (ho); (try clear HL354_0 HO353); clear ho hb hg hat) | ((with_reducible refine gate_builtin (b := .append) (xs := #[.tmp 63, .tmp 65]) rfl ?_); (try (refine gate_guard (by rfl) ?_; dsimp only)); at_builtin; refine Kd.R_append k81 (w0 := w) w.heap.size rfl (.tmp 63) (.tmp 65) 56 81 (.agg #[(.int .i64 0), (.int .i64 0)]) 16 rfl Try.underlying56 info81 rfl (by decide) (by omega) v356 y355 (⟨2, 0⟩ : S81) [.int .i64 2, .int .i64 0] (fun _ => True) (fun _ => False) rfl rfl ?aP (fun _ hk => hk.elim) ?aF ?aO ?aB ?aS ?aL ?_; (case aP => exact k81_mkM _ _ _ (⟨2, 0⟩ : S81)); (case aB => exact (below_at HB.out)); (case aF => exact (fun _ _ => trivial)); (case aO => exact (Kd.R_below HO357.out lt_)); (case aS => exact (below_size (below_at HB.out))); (case aL => have := LMc25.out; omega); intro v359 w33 ho hb hg hat; rw [← Ny358.out] at ho; replace HO_5 := Aside0.mk (Kd.S_after (ok := (fun _ => True)) (Kd.S_below HO_5.out lt_) hg hat); replace HO_6 := Aside0.mk (Kd.S_after (ok := (fun _ => True)) (Kd.S_below HO_6.out lt_) hg hat); replace HB := Aside0.mk (hb); (try clear HL354_0 HO357); clear ho hb hg hat))
    replace HO_5 := Aside0.mk (Kd.S_drew HO_5.out)
    replace HO_6 := Aside0.mk (Kd.S_drew HO_6.out)
    replace HB := Aside0.mk (below_drew1 HB.out)
    (try clear HL354_0 HO360)
    have p361 : 0 ≤ (x10_2 : Int) := of_decide_eq_true (by assumption)
    have q361 : x10_2 < (t341.length : Int) := of_decide_eq_true (by assumption)
    obtain ⟨ad361, A361_1, c361_1, e361, hx361_0, hx361_1, hl361_1, hi361_1⟩ := at_T83 (Kd.S_reads' HO_6.out).2.2 x10_2 p361 q361
    cases e361
    obtain ⟨ce361, hce361, hMe361, hcc361⟩ := Kd.S_get HO_6.out z83 x10_2 p361 (by first | exact q361 | exact of_decide_eq_true (by assumption) | (have e_ := (Kd.S_reads' HO_6.out).1; omega))
    obtain ⟨ve361_1, rfl, ge361_1⟩ := k83_openM hMe361
    have hv361_1 := hcc361 1 _ rfl
    rw [add_field _ _ 1 (by omega)] at hv361_1
    replace hv361_1 := Option.some.inj (hv361_1.symm.trans hx361_1)
    rw [hv361_1] at ge361_1
    have HL361_1 := Aside0.mk (show Kd.R k81 81 _ _ _ _ ((rd_T83 t341 x10_2).f1) from ge361_1)
    clear hv361_1 ge361_1
    clear hcc361 hce361
    have HR361_1 := Aside0.mk hi361_1
    have HC361_1 := Aside0.mk hl361_1
    clear hi361_1 hl361_1
    replace p361 := eq_true p361
    replace q361 := eq_true q361
    have p362 : 0 ≤ (x10_2 : Int) := of_decide_eq_true (by assumption)
    have q362 : x10_2 < (t341.length : Int) := of_decide_eq_true (by assumption)
    obtain ⟨ad362, A362_1, c362_1, e362, hx362_0, hx362_1, hl362_1, hi362_1⟩ := at_T83 (Kd.S_reads' HO_6.out).2.2 x10_2 p362 q362
    obtain rfl : ad361 = ad362 := (by injection e362)
    obtain ⟨ce362, hce362, hMe362, hcc362⟩ := Kd.S_get HO_6.out z83 x10_2 p362 (by first | exact q362 | exact of_decide_eq_true (by assumption) | (have e_ := (Kd.S_reads' HO_6.out).1; omega))
    obtain ⟨ve362_1, rfl, ge362_1⟩ := k83_openM hMe362
    have hv362_1 := hcc362 1 _ rfl
    rw [add_field _ _ 1 (by omega)] at hv362_1
    replace hv362_1 := Option.some.inj (hv362_1.symm.trans hx362_1)
    rw [hv362_1] at ge362_1
    have HL362_1 := Aside0.mk (show Kd.R k81 81 _ _ _ _ ((rd_T83 t341 x10_2).f1) from ge362_1)
    clear hv362_1 ge362_1
    clear hcc362 hce362
    have HR362_1 := Aside0.mk hi362_1
    have HC362_1 := Aside0.mk hl362_1
    clear hi362_1 hl362_1
    replace p362 := eq_true p362
    replace q362 := eq_true q362
    have ea_ := Option.some.inj (hx361_1.symm.trans hx362_1)
    injection ea_ with ea_ en_ ec_
    subst ea_
    subst ec_
    clear en_
    have p363 : 0 ≤ (x10_2 : Int) := of_decide_eq_true (by assumption)
    have q363 : x10_2 < (t338.length : Int) := of_decide_eq_true (by assumption)
    obtain ⟨ad363, A363_0, c363_0, e363, hx363_0, hl363_0, hi363_0⟩ := at_L2 (Kd.S_reads' HO_5.out).2.2 x10_2 p363 q363
    obtain rfl : ad354 = ad363 := (by injection e363)
    obtain ⟨ce363, hce363, hMe363, hcc363⟩ := Kd.S_get HO_5.out [] x10_2 p363 (by first | exact q363 | exact of_decide_eq_true (by assumption) | (have e_ := (Kd.S_reads' HO_5.out).1; omega))
    obtain ⟨ve363_0, rfl, ge363_0⟩ := hMe363
    have hv363_0 := hcc363 0 _ rfl
    rw [Nat.add_zero, show ((Kd.slice 81 k81)).sz = 1 from rfl, Nat.mul_one] at hv363_0
    replace hv363_0 := Option.some.inj (hv363_0.symm.trans hx363_0)
    rw [hv363_0] at ge363_0
    have HL363_0 := Aside0.mk (show Kd.R k81 81 _ _ _ _ (rd_L2 t338 x10_2) from ge363_0)
    clear hv363_0 ge363_0
    clear hcc363 hce363
    have HR363_0 := Aside0.mk hi363_0
    have HC363_0 := Aside0.mk hl363_0
    clear hi363_0 hl363_0
    replace p363 := eq_true p363
    replace q363 := eq_true q363
    refine start_ (n := 30) (S := fun w' => w'.cell? (ad361.add ((x10_2).toNat * 2)) = some (.int .i64 ((rd_T83 t341 x10_2).f0)) ∧ w'.cell? ⟨(ad361.add ((x10_2).toNat * 2)).block, (ad361.add ((x10_2).toNat * 2)).off + 1, none⟩ = some (.slice A361_1 ((rd_T83 t341 x10_2).f1).length c361_1) ∧ w'.cell? (ad361.add ((x10_2).toNat * 2)) = some (.int .i64 ((rd_T83 t341 x10_2).f0)) ∧ w'.cell? ⟨(ad361.add ((x10_2).toNat * 2)).block, (ad361.add ((x10_2).toNat * 2)).off + 1, none⟩ = some (.slice A361_1 ((rd_T83 t341 x10_2).f1).length c361_1) ∧ w'.cell? (ad354.add (x10_2).toNat) = some (.slice A363_0 (rd_L2 t338 x10_2).length c363_0)) (ds := []) #[false, false, false, false, false, false, false, false, false, false, false, false, false, false, false, false, false, false, false, false, false, false, false, false, false, false, false, false, false, false] (by kernel_rfl) rfl rfl ⟨hx361_0, hx361_1, hx362_0, hx362_1, hx363_0⟩ (fun hHeld => ?_); refine with_tabW laws_FnMadeStory.tab14 laws_FnMadeStory.bits14 (fun HT_ HW_ => ?_)
    generalize w33.drew = w34 at HO_5 HO_6 HB HR361_1 HR362_1 HR363_0 hx361_0 hx361_1 hx362_0 hx362_1 hx363_0 hHeld ⊢
    refine pure_ (i := 0) (N := some 67) (v := ?_) (a' := ?_) #[true, false, false, false, false, false, false, false, false, false, false, false, false, false, false, false, false, false, false, false, false, false, false, false, false, false, false, false, false, false] rfl rfl (any_of HT_.out (by kernel_rfl)) (fun _ _ _ h => h) (Or.inl ⟨by rfl, ?_⟩) ?_ ?_
    rotate_left
    ·intro w'
     go_simp
     with_reducible rfl
    rotate_left
    ·simp only [Act.put, z0_, z1_, z2_, i64_w, i32_w]
     rfl
    refine pure_ (i := 1) (N := some 68) (v := ?_) (a' := ?_) #[true, true, false, false, false, false, false, false, false, false, false, false, false, false, false, false, false, false, false, false, false, false, false, false, false, false, false, false, false, false] rfl rfl (any_of HT_.out (by kernel_rfl)) (fun _ _ _ h => h) (Or.inl ⟨by rfl, ?_⟩) ?_ ?_
    rotate_left
    ·intro w'
     go_simp
     with_reducible rfl
    rotate_left
    ·simp only [Act.put, z0_, z1_, z2_, i64_w, i32_w]
     rfl
    refine pure_ (i := 2) (N := some 69) (v := ?_) (a' := ?_) #[true, true, true, false, false, false, false, false, false, false, false, false, false, false, false, false, false, false, false, false, false, false, false, false, false, false, false, false, false, false] rfl rfl (any_of HT_.out (by kernel_rfl)) (fun _ _ _ h => h) (Or.inl ⟨by rfl, ?_⟩) ?_ ?_
    rotate_left
    ·intro w'
     go_simp
     with_reducible rfl
    rotate_left
    ·simp only [Act.put, z0_, z1_, z2_, i64_w, i32_w]
     rfl
    refine pure_ (i := 3) (N := some 70) (v := ?_) (a' := ?_) #[true, true, true, true, false, false, false, false, false, false, false, false, false, false, false, false, false, false, false, false, false, false, false, false, false, false, false, false, false, false] rfl rfl (any_of HT_.out (by kernel_rfl)) (fun _ _ _ h => h) (Or.inl ⟨by rfl, ?_⟩) ?_ ?_
    rotate_left
    ·intro w'
     go_simp
     with_reducible rfl
    rotate_left
    ·simp only [Act.put, z0_, z1_, z2_, i64_w, i32_w]
     rfl
    refine pure_ (i := 5) (N := some 72) (v := ?_) (a' := ?_) #[true, true, true, true, false, true, false, false, false, false, false, false, false, false, false, false, false, false, false, false, false, false, false, false, false, false, false, false, false, false] rfl rfl (any_of HT_.out (by kernel_rfl)) (fun _ _ _ h => h) (Or.inl ⟨by rfl, ?_⟩) ?_ ?_
    rotate_left
    ·intro w'
     go_simp
     with_reducible rfl
    rotate_left
    ·simp only [Act.put, z0_, z1_, z2_, i64_w, i32_w]
     rfl
    refine take_ (i := 4) (N := some 71) (v := ?_) (a' := ?_) #[true, true, true, true, true, true, false, false, false, false, false, false, false, false, false, false, false, false, false, false, false, false, false, false, false, false, false, false, false, false] rfl rfl (take_ofW HT_.out HW_.out (by kernel_rfl)) (fun _ _ _ h => h) (Or.inl ⟨by rfl, ?_⟩) hHeld ?_ ?_
    rotate_left
    ·rintro w' ⟨s0, s1, s2, s3, s4⟩
     go_simp
     with_reducible rfl
    rotate_left
    ·simp only [Act.put, z0_, z1_, z2_, i64_w, i32_w]
     rfl
    refine pure_ (i := 6) (N := some 73) (v := ?_) (a' := ?_) #[true, true, true, true, true, true, true, false, false, false, false, false, false, false, false, false, false, false, false, false, false, false, false, false, false, false, false, false, false, false] rfl rfl (any_of HT_.out (by kernel_rfl)) (fun _ _ _ h => h) (Or.inl ⟨by rfl, ?_⟩) ?_ ?_
    rotate_left
    ·intro w'
     go_simp
     with_reducible rfl
    rotate_left
    ·simp only [Act.put, z0_, z1_, z2_, i64_w, i32_w]
     rfl
    refine pure_ (i := 7) (N := some 74) (v := ?_) (a' := ?_) #[true, true, true, true, true, true, true, true, false, false, false, false, false, false, false, false, false, false, false, false, false, false, false, false, false, false, false, false, false, false] rfl rfl (any_of HT_.out (by kernel_rfl)) (fun _ _ _ h => h) (Or.inl ⟨by rfl, ?_⟩) ?_ ?_
    rotate_left
    ·intro w'
     go_simp
     with_reducible rfl
    rotate_left
    ·simp only [Act.put, z0_, z1_, z2_, i64_w, i32_w]
     rfl
    refine pure_ (i := 8) (N := some 75) (v := ?_) (a' := ?_) #[true, true, true, true, true, true, true, true, true, false, false, false, false, false, false, false, false, false, false, false, false, false, false, false, false, false, false, false, false, false] rfl rfl (any_of HT_.out (by kernel_rfl)) (fun _ _ _ h => h) (Or.inl ⟨by rfl, ?_⟩) ?_ ?_
    rotate_left
    ·intro w'
     go_simp
     with_reducible rfl
    rotate_left
    ·simp only [Act.put, z0_, z1_, z2_, i64_w, i32_w]
     rfl
    refine pure_ (i := 9) (N := some 76) (v := ?_) (a' := ?_) #[true, true, true, true, true, true, true, true, true, true, false, false, false, false, false, false, false, false, false, false, false, false, false, false, false, false, false, false, false, false] rfl rfl (any_of HT_.out (by kernel_rfl)) (fun _ _ _ h => h) (Or.inl ⟨by rfl, ?_⟩) ?_ ?_
    rotate_left
    ·intro w'
     go_simp
     with_reducible rfl
    rotate_left
    ·simp only [Act.put, z0_, z1_, z2_, i64_w, i32_w]
     rfl
    refine pure_ (i := 10) (N := some 77) (v := ?_) (a' := ?_) #[true, true, true, true, true, true, true, true, true, true, true, false, false, false, false, false, false, false, false, false, false, false, false, false, false, false, false, false, false, false] rfl rfl (any_of HT_.out (by kernel_rfl)) (fun _ _ _ h => h) (Or.inl ⟨by rfl, ?_⟩) ?_ ?_
    rotate_left
    ·intro w'
     go_simp
     with_reducible rfl
    rotate_left
    ·simp only [Act.put, z0_, z1_, z2_, i64_w, i32_w]
     rfl
    refine pure_ (i := 11) (N := some 78) (v := ?_) (a' := ?_) #[true, true, true, true, true, true, true, true, true, true, true, true, false, false, false, false, false, false, false, false, false, false, false, false, false, false, false, false, false, false] rfl rfl (any_of HT_.out (by kernel_rfl)) (fun _ _ _ h => h) (Or.inl ⟨by rfl, ?_⟩) ?_ ?_
    rotate_left
    ·intro w'
     go_simp
     with_reducible rfl
    rotate_left
    ·simp only [Act.put, z0_, z1_, z2_, i64_w, i32_w]
     rfl
    refine pure_ (i := 13) (N := some 80) (v := ?_) (a' := ?_) #[true, true, true, true, true, true, true, true, true, true, true, true, false, true, false, false, false, false, false, false, false, false, false, false, false, false, false, false, false, false] rfl rfl (any_of HT_.out (by kernel_rfl)) (fun _ _ _ h => h) (Or.inl ⟨by rfl, ?_⟩) ?_ ?_
    rotate_left
    ·intro w'
     go_simp
     with_reducible rfl
    rotate_left
    ·simp only [Act.put, z0_, z1_, z2_, i64_w, i32_w]
     rfl
    refine pure_ (i := 14) (N := some 81) (v := ?_) (a' := ?_) #[true, true, true, true, true, true, true, true, true, true, true, true, false, true, true, false, false, false, false, false, false, false, false, false, false, false, false, false, false, false] rfl rfl (any_of HT_.out (by kernel_rfl)) (fun _ _ _ h => h) (Or.inl ⟨by rfl, ?_⟩) ?_ ?_
    rotate_left
    ·intro w'
     go_simp
     with_reducible rfl
    rotate_left
    ·simp only [Act.put, z0_, z1_, z2_, i64_w, i32_w]
     rfl
    refine pure_ (i := 15) (N := some 82) (v := ?_) (a' := ?_) #[true, true, true, true, true, true, true, true, true, true, true, true, false, true, true, true, false, false, false, false, false, false, false, false, false, false, false, false, false, false] rfl rfl (any_of HT_.out (by kernel_rfl)) (fun _ _ _ h => h) (Or.inl ⟨by rfl, ?_⟩) ?_ ?_
    rotate_left
    ·intro w'
     go_simp
     with_reducible rfl
    rotate_left
    ·simp only [Act.put, z0_, z1_, z2_, i64_w, i32_w]
     rfl
    refine take_ (i := 12) (N := some 79) (v := ?_) (a' := ?_) #[true, true, true, true, true, true, true, true, true, true, true, true, true, true, true, true, false, false, false, false, false, false, false, false, false, false, false, false, false, false] rfl rfl (take_ofW HT_.out HW_.out (by kernel_rfl)) (fun _ _ _ h => h) (Or.inl ⟨by rfl, ?_⟩) hHeld ?_ ?_
    rotate_left
    ·rintro w' ⟨s0, s1, s2, s3, s4⟩
     go_simp
     with_reducible rfl
    rotate_left
    ·simp only [Act.put, z0_, z1_, z2_, i64_w, i32_w]
     rfl
    refine take_ (i := 16) (N := some 83) (v := ?_) (a' := ?_) #[true, true, true, true, true, true, true, true, true, true, true, true, true, true, true, true, true, false, false, false, false, false, false, false, false, false, false, false, false, false] rfl rfl (take_ofW HT_.out HW_.out (by kernel_rfl)) (fun _ _ _ h => h) (Or.inl ⟨by rfl, ?_⟩) hHeld ?_ ?_
    rotate_left
    ·rintro w' ⟨s0, s1, s2, s3, s4⟩
     go_simp
     with_reducible rfl
    rotate_left
    ·simp only [Act.put, z0_, z1_, z2_, i64_w, i32_w]
     rfl
    refine one_ (i := 17) (N := some 84) #[true, true, true, true, true, true, true, true, true, true, true, true, true, true, true, true, true, true, false, false, false, false, false, false, false, false, false, false, false, false] rfl rfl (one_of HT_.out (by kernel_rfl)) (by decide) (fun K hK => ?_)
    refine goes_ Try.func61 (by kernel_rfl) rfl #[.slice A361_1 ((rd_T83 t341 x10_2).f1).length c361_1, .slice A363_0 (rd_L2 t338 x10_2).length c363_0] (by rfl) rfl rfl (by (try simp only [List.map_toArray, List.map_cons, List.map_nil]); first | done | rfl | (simp only [List.length_drop, List.length_take]; rfl)) ?_
    with_reducible refine (laws_sameMarks.calls k2 _ _ ((rd_T83 t341 x10_2).f1) _ _ (rd_L2 t338 x10_2) true _ ?side1 ?side2 ?side3 ?side4 A27.out).mono ?_
    (case side1 => exact Kd.C_below HR362_1.out lt_)
    (case side2 => exact HC362_1.out)
    (case side3 => exact Kd.C_below HR363_0.out lt_)
    (case side4 => exact HC363_0.out)
    rintro e w' ⟨rfl, ⟨nd, rfl⟩⟩
    refine ⟨_, rfl, ?_⟩
    refine hK.out _ _ ⟨hHeld.1, hHeld.2.1, hHeld.2.2.1, hHeld.2.2.2.1, hHeld.2.2.2.2⟩ (fun hHeld => ?_)
    clear hK K
    refine norm_ (a' := ?_) ?_ ?_
    rotate_left
    ·show Act.put _ (some 84) _ = _
     simp only [Act.put, z0_, z1_, z2_, i64_w, i32_w]
     rfl
    refine pure_ (i := 18) (N := some 85) (v := ?_) (a' := ?_) #[true, true, true, true, true, true, true, true, true, true, true, true, true, true, true, true, true, true, true, false, false, false, false, false, false, false, false, false, false, false] rfl rfl (any_of HT_.out (by kernel_rfl)) (fun _ _ _ h => h) (Or.inl ⟨by rfl, ?_⟩) ?_ ?_
    rotate_left
    ·intro w'
     go_simp
     with_reducible rfl
    rotate_left
    ·simp only [Act.put, z0_, z1_, z2_, i64_w, i32_w]
     rfl
    refine pure_ (i := 19) (N := some 86) (v := ?_) (a' := ?_) #[true, true, true, true, true, true, true, true, true, true, true, true, true, true, true, true, true, true, true, true, false, false, false, false, false, false, false, false, false, false] rfl rfl (any_of HT_.out (by kernel_rfl)) (fun _ _ _ h => h) (Or.inl ⟨by rfl, ?_⟩) ?_ ?_
    rotate_left
    ·intro w'
     go_simp
     with_reducible rfl
    rotate_left
    ·simp only [Act.put, z0_, z1_, z2_, i64_w, i32_w]
     rfl
    refine pure_ (i := 20) (N := some 87) (v := undef) (a' := ?_) #[true, true, true, true, true, true, true, true, true, true, true, true, true, true, true, true, true, true, true, true, true, false, false, false, false, false, false, false, false, false] rfl rfl (any_of HT_.out (by kernel_rfl)) (fun _ _ _ h => h) (Or.inr ⟨by rfl, rfl⟩) ?_ ?_
    rotate_left
    ·simp only [Act.put, z0_, z1_, z2_, i64_w, i32_w]
     rfl
    refine pure_ (i := 21) (N := some 88) (v := undef) (a' := ?_) #[true, true, true, true, true, true, true, true, true, true, true, true, true, true, true, true, true, true, true, true, true, true, false, false, false, false, false, false, false, false] rfl rfl (any_of HT_.out (by kernel_rfl)) (fun _ _ _ h => h) (Or.inr ⟨by rfl, rfl⟩) ?_ ?_
    rotate_left
    ·simp only [Act.put, z0_, z1_, z2_, i64_w, i32_w]
     rfl
    refine pure_ (i := 22) (N := some 89) (v := undef) (a' := ?_) #[true, true, true, true, true, true, true, true, true, true, true, true, true, true, true, true, true, true, true, true, true, true, true, false, false, false, false, false, false, false] rfl rfl (any_of HT_.out (by kernel_rfl)) (fun _ _ _ h => h) (Or.inr ⟨by rfl, rfl⟩) ?_ ?_
    rotate_left
    ·simp only [Act.put, z0_, z1_, z2_, i64_w, i32_w]
     rfl
    refine pure_ (i := 23) (N := some 90) (v := undef) (a' := ?_) #[true, true, true, true, true, true, true, true, true, true, true, true, true, true, true, true, true, true, true, true, true, true, true, true, false, false, false, false, false, false] rfl rfl (any_of HT_.out (by kernel_rfl)) (fun _ _ _ h => h) (Or.inr ⟨by rfl, rfl⟩) ?_ ?_
    rotate_left
    ·simp only [Act.put, z0_, z1_, z2_, i64_w, i32_w]
     rfl
    refine pure_ (i := 24) (N := some 91) (v := undef) (a' := ?_) #[true, true, true, true, true, true, true, true, true, true, true, true, true, true, true, true, true, true, true, true, true, true, true, true, true, false, false, false, false, false] rfl rfl (any_of HT_.out (by kernel_rfl)) (fun _ _ _ h => h) (Or.inr ⟨by rfl, rfl⟩) ?_ ?_
    rotate_left
    ·simp only [Act.put, z0_, z1_, z2_, i64_w, i32_w]
     rfl
    refine pure_ (i := 25) (N := some 92) (v := undef) (a' := ?_) #[true, true, true, true, true, true, true, true, true, true, true, true, true, true, true, true, true, true, true, true, true, true, true, true, true, true, false, false, false, false] rfl rfl (any_of HT_.out (by kernel_rfl)) (fun _ _ _ h => h) (Or.inr ⟨by rfl, rfl⟩) ?_ ?_
    rotate_left
    ·simp only [Act.put, z0_, z1_, z2_, i64_w, i32_w]
     rfl
    refine pure_ (i := 26) (N := some 93) (v := undef) (a' := ?_) #[true, true, true, true, true, true, true, true, true, true, true, true, true, true, true, true, true, true, true, true, true, true, true, true, true, true, true, false, false, false] rfl rfl (any_of HT_.out (by kernel_rfl)) (fun _ _ _ h => h) (Or.inr ⟨by rfl, rfl⟩) ?_ ?_
    rotate_left
    ·simp only [Act.put, z0_, z1_, z2_, i64_w, i32_w]
     rfl
    refine pure_ (i := 27) (N := some 94) (v := undef) (a' := ?_) #[true, true, true, true, true, true, true, true, true, true, true, true, true, true, true, true, true, true, true, true, true, true, true, true, true, true, true, true, false, false] rfl rfl (any_of HT_.out (by kernel_rfl)) (fun _ _ _ h => h) (Or.inr ⟨by rfl, rfl⟩) ?_ ?_
    rotate_left
    ·simp only [Act.put, z0_, z1_, z2_, i64_w, i32_w]
     rfl
    refine pure_ (i := 28) (N := some 95) (v := ?_) (a' := ?_) #[true, true, true, true, true, true, true, true, true, true, true, true, true, true, true, true, true, true, true, true, true, true, true, true, true, true, true, true, true, false] rfl rfl (any_of HT_.out (by kernel_rfl)) (fun _ _ _ h => h) (Or.inl ⟨by rfl, ?_⟩) ?_ ?_
    rotate_left
    ·intro w'
     go_simp
     with_reducible rfl
    rotate_left
    ·simp only [Act.put, z0_, z1_, z2_, i64_w, i32_w]
     rfl
    refine pure_ (i := 29) (N := some 96) (v := ?_) (a' := ?_) #[true, true, true, true, true, true, true, true, true, true, true, true, true, true, true, true, true, true, true, true, true, true, true, true, true, true, true, true, true, true] rfl rfl (any_of HT_.out (by kernel_rfl)) (fun _ _ _ h => h) (Or.inl ⟨by rfl, ?_⟩) ?_ ?_
    rotate_left
    ·intro w'
     go_simp
     with_reducible rfl
    rotate_left
    ·simp only [Act.put, z0_, z1_, z2_, i64_w, i32_w]
     rfl
    refine done_ (done_of HT_.out (by kernel_rfl)) ?_
    try go_wp2
    go_roundg k2
    case measure => have := HJ5.out; have := HK2.out; omega
    case rel => exact ⟨(wrap64 (x10_2 + 1)), (by first | rfl | (simp; done) | (simp [*]; done)), H', ⟨by have := HJ5.out; have := HK2.out; omega⟩, ⟨Kd.S_below (Kd.S_mono HO_5.out (fun _ hk => trivial)) lt_⟩, ⟨Kd.S_below (Kd.S_mono HO_6.out (fun _ hk => trivial)) lt_⟩, ⟨below_at HB.out⟩⟩
   replace c28 := Bool.eq_false_iff.mpr c28
   subst c28
   rw [if_neg (show ¬ (false = true) by decide)] at H
   replace H := Option.bind_eq_some_iff.mp H
   obtain ⟨t366, A350, H⟩ := H
   try dsimp only at H
   have A35 := Aside0.mk A350
   clear A350
   by_cases c36 : t366 = true
   ·subst c36
    rw [if_pos rfl] at H
    have H' := Aside0.mk H
    clear H
    obtain ⟨Ao37, co37, eo37⟩ := Kd.S_slice HO_6.out
    subst eo37
    try go_wp2_with (first | ((with_reducible refine gate_dst (N := 58) rfl ?_); (try (refine gate_guard (by rfl) ?_; dsimp only)); refine Kd.R_lit k81 _ 81 ?hg (N := 58) ?hd (xs := ([] : List (S81))) (inner := []) (ok := fun _ => True) (okp := fun _ => True) ?hr ?hp (fun _ hk => hk) trivial (Below.refl _ _) (Nat.le_refl _) (by simp) ?_; (case hd => rfl); (case hg => rfl); (case hr => first | (go_simp; done) | (go_simp; rfl)); (case hp => exact (Reps.none _ _)); intro v352 w38 ho39 hb hg_ hnew_; clear hg_ hnew_; (first | rw [← Ny351.out] at ho39 | (simp only [Int.reduceToNat] at ho39; rw [← Ny351.out] at ho39)); replace HO_5 := Aside0.mk (Kd.S_elder' (Kd.S_below HO_5.out lt_) (Kd.R_base ho39) hb); replace HO_6 := Aside0.mk (Kd.S_elder' (Kd.S_below HO_6.out lt_) (Kd.R_base ho39) hb); have HO353 := Aside0.mk (Kd.R_lower ho39 (below_size (below_at HB.out))); replace HB := Aside0.mk (below_step (below_at HB.out) hb); clear hb ho39; have p354 : 0 ≤ (x10_2 : Int) := of_decide_eq_true (by assumption); have q354 : x10_2 < (t338.length : Int) := of_decide_eq_true (by assumption); obtain ⟨ad354, A354_0, c354_0, e354, hx354_0, hl354_0, hi354_0⟩ := at_L2 (Kd.S_reads' HO_5.out).2.2 x10_2 p354 q354; cases e354; obtain ⟨ce354, hce354, hMe354, hcc354⟩ := Kd.S_get HO_5.out [] x10_2 p354 (by first | exact q354 | exact of_decide_eq_true (by assumption) | (have e_ := (Kd.S_reads' HO_5.out).1; omega)); obtain ⟨ve354_0, rfl, ge354_0⟩ := hMe354; have hv354_0 := hcc354 0 _ rfl; rw [Nat.add_zero, show ((Kd.slice 81 k81)).sz = 1 from rfl, Nat.mul_one] at hv354_0; replace hv354_0 := Option.some.inj (hv354_0.symm.trans hx354_0); rw [hv354_0] at ge354_0; have HL354_0 := Aside0.mk (show Kd.R k81 81 _ _ _ _ (rd_L2 t338 x10_2) from ge354_0); clear hv354_0 ge354_0; clear hcc354 hce354; have HR354_0 := Aside0.mk hi354_0; have HC354_0 := Aside0.mk hl354_0; clear hi354_0 hl354_0; replace p354 := eq_true p354; replace q354 := eq_true q354) | ((with_reducible refine gate_builtin (b := .append) (xs := #[.tmp 58, .tmp 62]) rfl ?_); (try (refine gate_guard (by rfl) ?_; dsimp only)); at_builtin; refine Kd.R_append_rows k81 (w0 := w) w.heap.size rfl (.tmp 58) (.tmp 62) 56 81 (.agg #[(.int .i64 0), (.int .i64 0)]) 16 rfl Try.underlying56 info81 rfl (by decide) (by omega) v352 y351 (rd_L2 t338 x10_2) _ _ _ (fun _ => True) (fun _ => False) rfl rfl ?aO ?aR (fun _ _ h => h) (fun _ h => h.elim) ?aF ?aB ?aS ?aL ?_; (case aR => exact Kd.C_below HR354_0.out lt_); (case aB => exact (below_at HB.out)); (case aF => exact (fun _ _ => trivial)); (case aO => exact (Kd.R_below HO353.out lt_)); (case aS => exact (below_size (below_at HB.out))); (case aL => have := LMc24.out; omega); intro v356 w40 ho hb hg hat; rw [← Ny355.out] at ho; replace HO_5 := Aside0.mk (Kd.S_after (ok := (fun _ => True)) (Kd.S_below HO_5.out lt_) hg hat); replace HO_6 := Aside0.mk (Kd.S_after (ok := (fun _ => True)) (Kd.S_below HO_6.out lt_) hg hat); replace HB := Aside0.mk (hb); have HO357 := Aside0.mk (ho); (try clear HL354_0 HO353); clear ho hb hg hat) | ((with_reducible refine gate_builtin (b := .append) (xs := #[.tmp 63, .tmp 65]) rfl ?_); (try (refine gate_guard (by rfl) ?_; dsimp only)); at_builtin; refine Kd.R_append k81 (w0 := w) w.heap.size rfl (.tmp 63) (.tmp 65) 56 81 (.agg #[(.int .i64 0), (.int .i64 0)]) 16 rfl Try.underlying56 info81 rfl (by decide) (by omega) v356 y355 (⟨2, 0⟩ : S81) [.int .i64 2, .int .i64 0] (fun _ => True) (fun _ => False) rfl rfl ?aP (fun _ hk => hk.elim) ?aF ?aO ?aB ?aS ?aL ?_; (case aP => exact k81_mkM _ _ _ (⟨2, 0⟩ : S81)); (case aB => exact (below_at HB.out)); (case aF => exact (fun _ _ => trivial)); (case aO => exact (Kd.R_below HO357.out lt_)); (case aS => exact (below_size (below_at HB.out))); (case aL => have := LMc25.out; omega); intro v359 w41 ho hb hg hat; rw [← Ny358.out] at ho; replace HO_5 := Aside0.mk (Kd.S_after (ok := (fun _ => True)) (Kd.S_below HO_5.out lt_) hg hat); replace HO_6 := Aside0.mk (Kd.S_after (ok := (fun _ => True)) (Kd.S_below HO_6.out lt_) hg hat); replace HB := Aside0.mk (hb); have HO360 := Aside0.mk (ho); (try clear HL354_0 HO357); clear ho hb hg hat))
    replace HO_5 := Aside0.mk (Kd.S_drew HO_5.out)
    replace HO_6 := Aside0.mk (Kd.S_drew HO_6.out)
    replace HO360 := Aside0.mk (Kd.R_drew HO360.out)
    replace HB := Aside0.mk (below_drew1 HB.out)
    (try clear HL354_0)
    have p361 : 0 ≤ (x10_2 : Int) := of_decide_eq_true (by assumption)
    have q361 : x10_2 < (t341.length : Int) := of_decide_eq_true (by assumption)
    obtain ⟨ad361, A361_1, c361_1, e361, hx361_0, hx361_1, hl361_1, hi361_1⟩ := at_T83 (Kd.S_reads' HO_6.out).2.2 x10_2 p361 q361
    cases e361
    obtain ⟨ce361, hce361, hMe361, hcc361⟩ := Kd.S_get HO_6.out z83 x10_2 p361 (by first | exact q361 | exact of_decide_eq_true (by assumption) | (have e_ := (Kd.S_reads' HO_6.out).1; omega))
    obtain ⟨ve361_1, rfl, ge361_1⟩ := k83_openM hMe361
    have hv361_1 := hcc361 1 _ rfl
    rw [add_field _ _ 1 (by omega)] at hv361_1
    replace hv361_1 := Option.some.inj (hv361_1.symm.trans hx361_1)
    rw [hv361_1] at ge361_1
    have HL361_1 := Aside0.mk (show Kd.R k81 81 _ _ _ _ ((rd_T83 t341 x10_2).f1) from ge361_1)
    clear hv361_1 ge361_1
    clear hcc361 hce361
    have HR361_1 := Aside0.mk hi361_1
    have HC361_1 := Aside0.mk hl361_1
    clear hi361_1 hl361_1
    replace p361 := eq_true p361
    replace q361 := eq_true q361
    have p362 : 0 ≤ (x10_2 : Int) := of_decide_eq_true (by assumption)
    have q362 : x10_2 < (t341.length : Int) := of_decide_eq_true (by assumption)
    obtain ⟨ad362, A362_1, c362_1, e362, hx362_0, hx362_1, hl362_1, hi362_1⟩ := at_T83 (Kd.S_reads' HO_6.out).2.2 x10_2 p362 q362
    obtain rfl : ad361 = ad362 := (by injection e362)
    obtain ⟨ce362, hce362, hMe362, hcc362⟩ := Kd.S_get HO_6.out z83 x10_2 p362 (by first | exact q362 | exact of_decide_eq_true (by assumption) | (have e_ := (Kd.S_reads' HO_6.out).1; omega))
    obtain ⟨ve362_1, rfl, ge362_1⟩ := k83_openM hMe362
    have hv362_1 := hcc362 1 _ rfl
    rw [add_field _ _ 1 (by omega)] at hv362_1
    replace hv362_1 := Option.some.inj (hv362_1.symm.trans hx362_1)
    rw [hv362_1] at ge362_1
    have HL362_1 := Aside0.mk (show Kd.R k81 81 _ _ _ _ ((rd_T83 t341 x10_2).f1) from ge362_1)
    clear hv362_1 ge362_1
    clear hcc362 hce362
    have HR362_1 := Aside0.mk hi362_1
    have HC362_1 := Aside0.mk hl362_1
    clear hi362_1 hl362_1
    replace p362 := eq_true p362
    replace q362 := eq_true q362
    have ea_ := Option.some.inj (hx361_1.symm.trans hx362_1)
    injection ea_ with ea_ en_ ec_
    subst ea_
    subst ec_
    clear en_
    have p363 : 0 ≤ (x10_2 : Int) := of_decide_eq_true (by assumption)
    have q363 : x10_2 < (t338.length : Int) := of_decide_eq_true (by assumption)
    obtain ⟨ad363, A363_0, c363_0, e363, hx363_0, hl363_0, hi363_0⟩ := at_L2 (Kd.S_reads' HO_5.out).2.2 x10_2 p363 q363
    obtain rfl : ad354 = ad363 := (by injection e363)
    obtain ⟨ce363, hce363, hMe363, hcc363⟩ := Kd.S_get HO_5.out [] x10_2 p363 (by first | exact q363 | exact of_decide_eq_true (by assumption) | (have e_ := (Kd.S_reads' HO_5.out).1; omega))
    obtain ⟨ve363_0, rfl, ge363_0⟩ := hMe363
    have hv363_0 := hcc363 0 _ rfl
    rw [Nat.add_zero, show ((Kd.slice 81 k81)).sz = 1 from rfl, Nat.mul_one] at hv363_0
    replace hv363_0 := Option.some.inj (hv363_0.symm.trans hx363_0)
    rw [hv363_0] at ge363_0
    have HL363_0 := Aside0.mk (show Kd.R k81 81 _ _ _ _ (rd_L2 t338 x10_2) from ge363_0)
    clear hv363_0 ge363_0
    clear hcc363 hce363
    have HR363_0 := Aside0.mk hi363_0
    have HC363_0 := Aside0.mk hl363_0
    clear hi363_0 hl363_0
    replace p363 := eq_true p363
    replace q363 := eq_true q363
    have p365 : 0 ≤ (x10_2 : Int) := of_decide_eq_true (by assumption)
    have q365 : x10_2 < (t341.length : Int) := of_decide_eq_true (by assumption)
    obtain ⟨ad365, A365_1, c365_1, e365, hx365_0, hx365_1, hl365_1, hi365_1⟩ := at_T83 (Kd.S_reads' HO_6.out).2.2 x10_2 p365 q365
    obtain rfl : ad361 = ad365 := (by injection e365)
    obtain ⟨ce365, hce365, hMe365, hcc365⟩ := Kd.S_get HO_6.out z83 x10_2 p365 (by first | exact q365 | exact of_decide_eq_true (by assumption) | (have e_ := (Kd.S_reads' HO_6.out).1; omega))
    obtain ⟨ve365_1, rfl, ge365_1⟩ := k83_openM hMe365
    have hv365_1 := hcc365 1 _ rfl
    rw [add_field _ _ 1 (by omega)] at hv365_1
    replace hv365_1 := Option.some.inj (hv365_1.symm.trans hx365_1)
    rw [hv365_1] at ge365_1
    have HL365_1 := Aside0.mk (show Kd.R k81 81 _ _ _ _ ((rd_T83 t341 x10_2).f1) from ge365_1)
    clear hv365_1 ge365_1
    clear hcc365 hce365
    have HR365_1 := Aside0.mk hi365_1
    have HC365_1 := Aside0.mk hl365_1
    clear hi365_1 hl365_1
    replace p365 := eq_true p365
    replace q365 := eq_true q365
    have ea_ := Option.some.inj (hx361_1.symm.trans hx365_1)
    injection ea_ with ea_ en_ ec_
    subst ea_
    subst ec_
    clear en_
    refine start_ (n := 30) (S := fun w' => w'.cell? (ad361.add ((x10_2).toNat * 2)) = some (.int .i64 ((rd_T83 t341 x10_2).f0)) ∧ w'.cell? ⟨(ad361.add ((x10_2).toNat * 2)).block, (ad361.add ((x10_2).toNat * 2)).off + 1, none⟩ = some (.slice A361_1 ((rd_T83 t341 x10_2).f1).length c361_1) ∧ w'.cell? (ad361.add ((x10_2).toNat * 2)) = some (.int .i64 ((rd_T83 t341 x10_2).f0)) ∧ w'.cell? ⟨(ad361.add ((x10_2).toNat * 2)).block, (ad361.add ((x10_2).toNat * 2)).off + 1, none⟩ = some (.slice A361_1 ((rd_T83 t341 x10_2).f1).length c361_1) ∧ w'.cell? (ad354.add (x10_2).toNat) = some (.slice A363_0 (rd_L2 t338 x10_2).length c363_0) ∧ w'.cell? (ad361.add ((x10_2).toNat * 2)) = some (.int .i64 ((rd_T83 t341 x10_2).f0)) ∧ w'.cell? ⟨(ad361.add ((x10_2).toNat * 2)).block, (ad361.add ((x10_2).toNat * 2)).off + 1, none⟩ = some (.slice A361_1 ((rd_T83 t341 x10_2).f1).length c361_1)) (ds := []) #[false, false, false, false, false, false, false, false, false, false, false, false, false, false, false, false, false, false, false, false, false, false, false, false, false, false, false, false, false, false] (by kernel_rfl) rfl rfl ⟨hx361_0, hx361_1, hx362_0, hx362_1, hx363_0, hx365_0, hx365_1⟩ (fun hHeld => ?_); refine with_tabW laws_FnMadeStory.tab14 laws_FnMadeStory.bits14 (fun HT_ HW_ => ?_)
    generalize w41.drew = w42 at HO_5 HO_6 HO360 HB HR361_1 HR362_1 HR363_0 HR365_1 hx361_0 hx361_1 hx362_0 hx362_1 hx363_0 hx365_0 hx365_1 hHeld ⊢
    refine pure_ (i := 0) (N := some 67) (v := ?_) (a' := ?_) #[true, false, false, false, false, false, false, false, false, false, false, false, false, false, false, false, false, false, false, false, false, false, false, false, false, false, false, false, false, false] rfl rfl (any_of HT_.out (by kernel_rfl)) (fun _ _ _ h => h) (Or.inl ⟨by rfl, ?_⟩) ?_ ?_
    rotate_left
    ·intro w'
     go_simp
     with_reducible rfl
    rotate_left
    ·simp only [Act.put, z0_, z1_, z2_, i64_w, i32_w]
     rfl
    refine pure_ (i := 1) (N := some 68) (v := ?_) (a' := ?_) #[true, true, false, false, false, false, false, false, false, false, false, false, false, false, false, false, false, false, false, false, false, false, false, false, false, false, false, false, false, false] rfl rfl (any_of HT_.out (by kernel_rfl)) (fun _ _ _ h => h) (Or.inl ⟨by rfl, ?_⟩) ?_ ?_
    rotate_left
    ·intro w'
     go_simp
     with_reducible rfl
    rotate_left
    ·simp only [Act.put, z0_, z1_, z2_, i64_w, i32_w]
     rfl
    refine pure_ (i := 2) (N := some 69) (v := ?_) (a' := ?_) #[true, true, true, false, false, false, false, false, false, false, false, false, false, false, false, false, false, false, false, false, false, false, false, false, false, false, false, false, false, false] rfl rfl (any_of HT_.out (by kernel_rfl)) (fun _ _ _ h => h) (Or.inl ⟨by rfl, ?_⟩) ?_ ?_
    rotate_left
    ·intro w'
     go_simp
     with_reducible rfl
    rotate_left
    ·simp only [Act.put, z0_, z1_, z2_, i64_w, i32_w]
     rfl
    refine pure_ (i := 3) (N := some 70) (v := ?_) (a' := ?_) #[true, true, true, true, false, false, false, false, false, false, false, false, false, false, false, false, false, false, false, false, false, false, false, false, false, false, false, false, false, false] rfl rfl (any_of HT_.out (by kernel_rfl)) (fun _ _ _ h => h) (Or.inl ⟨by rfl, ?_⟩) ?_ ?_
    rotate_left
    ·intro w'
     go_simp
     with_reducible rfl
    rotate_left
    ·simp only [Act.put, z0_, z1_, z2_, i64_w, i32_w]
     rfl
    refine pure_ (i := 5) (N := some 72) (v := ?_) (a' := ?_) #[true, true, true, true, false, true, false, false, false, false, false, false, false, false, false, false, false, false, false, false, false, false, false, false, false, false, false, false, false, false] rfl rfl (any_of HT_.out (by kernel_rfl)) (fun _ _ _ h => h) (Or.inl ⟨by rfl, ?_⟩) ?_ ?_
    rotate_left
    ·intro w'
     go_simp
     with_reducible rfl
    rotate_left
    ·simp only [Act.put, z0_, z1_, z2_, i64_w, i32_w]
     rfl
    refine take_ (i := 4) (N := some 71) (v := ?_) (a' := ?_) #[true, true, true, true, true, true, false, false, false, false, false, false, false, false, false, false, false, false, false, false, false, false, false, false, false, false, false, false, false, false] rfl rfl (take_ofW HT_.out HW_.out (by kernel_rfl)) (fun _ _ _ h => h) (Or.inl ⟨by rfl, ?_⟩) hHeld ?_ ?_
    rotate_left
    ·rintro w' ⟨s0, s1, s2, s3, s4, s5, s6⟩
     go_simp
     with_reducible rfl
    rotate_left
    ·simp only [Act.put, z0_, z1_, z2_, i64_w, i32_w]
     rfl
    refine pure_ (i := 6) (N := some 73) (v := ?_) (a' := ?_) #[true, true, true, true, true, true, true, false, false, false, false, false, false, false, false, false, false, false, false, false, false, false, false, false, false, false, false, false, false, false] rfl rfl (any_of HT_.out (by kernel_rfl)) (fun _ _ _ h => h) (Or.inl ⟨by rfl, ?_⟩) ?_ ?_
    rotate_left
    ·intro w'
     go_simp
     with_reducible rfl
    rotate_left
    ·simp only [Act.put, z0_, z1_, z2_, i64_w, i32_w]
     rfl
    refine pure_ (i := 7) (N := some 74) (v := ?_) (a' := ?_) #[true, true, true, true, true, true, true, true, false, false, false, false, false, false, false, false, false, false, false, false, false, false, false, false, false, false, false, false, false, false] rfl rfl (any_of HT_.out (by kernel_rfl)) (fun _ _ _ h => h) (Or.inl ⟨by rfl, ?_⟩) ?_ ?_
    rotate_left
    ·intro w'
     go_simp
     with_reducible rfl
    rotate_left
    ·simp only [Act.put, z0_, z1_, z2_, i64_w, i32_w]
     rfl
    refine pure_ (i := 8) (N := some 75) (v := ?_) (a' := ?_) #[true, true, true, true, true, true, true, true, true, false, false, false, false, false, false, false, false, false, false, false, false, false, false, false, false, false, false, false, false, false] rfl rfl (any_of HT_.out (by kernel_rfl)) (fun _ _ _ h => h) (Or.inl ⟨by rfl, ?_⟩) ?_ ?_
    rotate_left
    ·intro w'
     go_simp
     with_reducible rfl
    rotate_left
    ·simp only [Act.put, z0_, z1_, z2_, i64_w, i32_w]
     rfl
    refine pure_ (i := 9) (N := some 76) (v := ?_) (a' := ?_) #[true, true, true, true, true, true, true, true, true, true, false, false, false, false, false, false, false, false, false, false, false, false, false, false, false, false, false, false, false, false] rfl rfl (any_of HT_.out (by kernel_rfl)) (fun _ _ _ h => h) (Or.inl ⟨by rfl, ?_⟩) ?_ ?_
    rotate_left
    ·intro w'
     go_simp
     with_reducible rfl
    rotate_left
    ·simp only [Act.put, z0_, z1_, z2_, i64_w, i32_w]
     rfl
    refine pure_ (i := 10) (N := some 77) (v := ?_) (a' := ?_) #[true, true, true, true, true, true, true, true, true, true, true, false, false, false, false, false, false, false, false, false, false, false, false, false, false, false, false, false, false, false] rfl rfl (any_of HT_.out (by kernel_rfl)) (fun _ _ _ h => h) (Or.inl ⟨by rfl, ?_⟩) ?_ ?_
    rotate_left
    ·intro w'
     go_simp
     with_reducible rfl
    rotate_left
    ·simp only [Act.put, z0_, z1_, z2_, i64_w, i32_w]
     rfl
    refine pure_ (i := 11) (N := some 78) (v := ?_) (a' := ?_) #[true, true, true, true, true, true, true, true, true, true, true, true, false, false, false, false, false, false, false, false, false, false, false, false, false, false, false, false, false, false] rfl rfl (any_of HT_.out (by kernel_rfl)) (fun _ _ _ h => h) (Or.inl ⟨by rfl, ?_⟩) ?_ ?_
    rotate_left
    ·intro w'
     go_simp
     with_reducible rfl
    rotate_left
    ·simp only [Act.put, z0_, z1_, z2_, i64_w, i32_w]
     rfl
    refine pure_ (i := 13) (N := some 80) (v := ?_) (a' := ?_) #[true, true, true, true, true, true, true, true, true, true, true, true, false, true, false, false, false, false, false, false, false, false, false, false, false, false, false, false, false, false] rfl rfl (any_of HT_.out (by kernel_rfl)) (fun _ _ _ h => h) (Or.inl ⟨by rfl, ?_⟩) ?_ ?_
    rotate_left
    ·intro w'
     go_simp
     with_reducible rfl
    rotate_left
    ·simp only [Act.put, z0_, z1_, z2_, i64_w, i32_w]
     rfl
    refine pure_ (i := 14) (N := some 81) (v := ?_) (a' := ?_) #[true, true, true, true, true, true, true, true, true, true, true, true, false, true, true, false, false, false, false, false, false, false, false, false, false, false, false, false, false, false] rfl rfl (any_of HT_.out (by kernel_rfl)) (fun _ _ _ h => h) (Or.inl ⟨by rfl, ?_⟩) ?_ ?_
    rotate_left
    ·intro w'
     go_simp
     with_reducible rfl
    rotate_left
    ·simp only [Act.put, z0_, z1_, z2_, i64_w, i32_w]
     rfl
    refine pure_ (i := 15) (N := some 82) (v := ?_) (a' := ?_) #[true, true, true, true, true, true, true, true, true, true, true, true, false, true, true, true, false, false, false, false, false, false, false, false, false, false, false, false, false, false] rfl rfl (any_of HT_.out (by kernel_rfl)) (fun _ _ _ h => h) (Or.inl ⟨by rfl, ?_⟩) ?_ ?_
    rotate_left
    ·intro w'
     go_simp
     with_reducible rfl
    rotate_left
    ·simp only [Act.put, z0_, z1_, z2_, i64_w, i32_w]
     rfl
    refine take_ (i := 12) (N := some 79) (v := ?_) (a' := ?_) #[true, true, true, true, true, true, true, true, true, true, true, true, true, true, true, true, false, false, false, false, false, false, false, false, false, false, false, false, false, false] rfl rfl (take_ofW HT_.out HW_.out (by kernel_rfl)) (fun _ _ _ h => h) (Or.inl ⟨by rfl, ?_⟩) hHeld ?_ ?_
    rotate_left
    ·rintro w' ⟨s0, s1, s2, s3, s4, s5, s6⟩
     go_simp
     with_reducible rfl
    rotate_left
    ·simp only [Act.put, z0_, z1_, z2_, i64_w, i32_w]
     rfl
    refine take_ (i := 16) (N := some 83) (v := ?_) (a' := ?_) #[true, true, true, true, true, true, true, true, true, true, true, true, true, true, true, true, true, false, false, false, false, false, false, false, false, false, false, false, false, false] rfl rfl (take_ofW HT_.out HW_.out (by kernel_rfl)) (fun _ _ _ h => h) (Or.inl ⟨by rfl, ?_⟩) hHeld ?_ ?_
    rotate_left
    ·rintro w' ⟨s0, s1, s2, s3, s4, s5, s6⟩
     go_simp
     with_reducible rfl
    rotate_left
    ·simp only [Act.put, z0_, z1_, z2_, i64_w, i32_w]
     rfl
    refine one_ (i := 17) (N := some 84) #[true, true, true, true, true, true, true, true, true, true, true, true, true, true, true, true, true, true, false, false, false, false, false, false, false, false, false, false, false, false] rfl rfl (one_of HT_.out (by kernel_rfl)) (by decide) (fun K hK => ?_)
    refine goes_ Try.func61 (by kernel_rfl) rfl #[.slice A361_1 ((rd_T83 t341 x10_2).f1).length c361_1, .slice A363_0 (rd_L2 t338 x10_2).length c363_0] (by rfl) rfl rfl (by (try simp only [List.map_toArray, List.map_cons, List.map_nil]); first | done | rfl | (simp only [List.length_drop, List.length_take]; rfl)) ?_
    with_reducible refine (laws_sameMarks.calls k2 _ _ ((rd_T83 t341 x10_2).f1) _ _ (rd_L2 t338 x10_2) false _ ?side1 ?side2 ?side3 ?side4 A27.out).mono ?_
    (case side1 => exact Kd.C_below HR362_1.out lt_)
    (case side2 => exact HC362_1.out)
    (case side3 => exact Kd.C_below HR363_0.out lt_)
    (case side4 => exact HC363_0.out)
    rintro e w' ⟨rfl, ⟨nd, rfl⟩⟩
    refine ⟨_, rfl, ?_⟩
    obtain ⟨Ao43, co43, eo43⟩ := Kd.R_slice HO360.out
    (first | subst eo43 | (injection eo43 with f1_ f2_ f3_; have f4_ := f1_.symm; have f5_ := f3_.symm; clear f1_ f2_ f3_; subst f4_; subst f5_))
    refine hK.out _ _ ⟨hHeld.1, hHeld.2.1, hHeld.2.2.1, hHeld.2.2.2.1, hHeld.2.2.2.2.1, hHeld.2.2.2.2.2.1, hHeld.2.2.2.2.2.2⟩ (fun hHeld => ?_)
    clear hK K
    refine norm_ (a' := ?_) ?_ ?_
    rotate_left
    ·show Act.put _ (some 84) _ = _
     simp only [Act.put, z0_, z1_, z2_, i64_w, i32_w]
     rfl
    refine pure_ (i := 18) (N := some 85) (v := ?_) (a' := ?_) #[true, true, true, true, true, true, true, true, true, true, true, true, true, true, true, true, true, true, true, false, false, false, false, false, false, false, false, false, false, false] rfl rfl (any_of HT_.out (by kernel_rfl)) (fun _ _ _ h => h) (Or.inl ⟨by rfl, ?_⟩) ?_ ?_
    rotate_left
    ·intro w'
     go_simp
     with_reducible rfl
    rotate_left
    ·simp only [Act.put, z0_, z1_, z2_, i64_w, i32_w]
     rfl
    refine pure_ (i := 19) (N := some 86) (v := ?_) (a' := ?_) #[true, true, true, true, true, true, true, true, true, true, true, true, true, true, true, true, true, true, true, true, false, false, false, false, false, false, false, false, false, false] rfl rfl (any_of HT_.out (by kernel_rfl)) (fun _ _ _ h => h) (Or.inl ⟨by rfl, ?_⟩) ?_ ?_
    rotate_left
    ·intro w'
     go_simp
     with_reducible rfl
    rotate_left
    ·simp only [Act.put, z0_, z1_, z2_, i64_w, i32_w]
     rfl
    refine pure_ (i := 20) (N := some 87) (v := ?_) (a' := ?_) #[true, true, true, true, true, true, true, true, true, true, true, true, true, true, true, true, true, true, true, true, true, false, false, false, false, false, false, false, false, false] rfl rfl (any_of HT_.out (by kernel_rfl)) (fun _ _ _ h => h) (Or.inl ⟨by rfl, ?_⟩) ?_ ?_
    rotate_left
    ·intro w'
     go_simp
     with_reducible rfl
    rotate_left
    ·simp only [Act.put, z0_, z1_, z2_, i64_w, i32_w]
     rfl
    refine pure_ (i := 21) (N := some 88) (v := ?_) (a' := ?_) #[true, true, true, true, true, true, true, true, true, true, true, true, true, true, true, true, true, true, true, true, true, true, false, false, false, false, false, false, false, false] rfl rfl (any_of HT_.out (by kernel_rfl)) (fun _ _ _ h => h) (Or.inl ⟨by rfl, ?_⟩) ?_ ?_
    rotate_left
    ·intro w'
     go_simp
     with_reducible rfl
    rotate_left
    ·simp only [Act.put, z0_, z1_, z2_, i64_w, i32_w]
     rfl
    refine pure_ (i := 22) (N := some 89) (v := ?_) (a' := ?_) #[true, true, true, true, true, true, true, true, true, true, true, true, true, true, true, true, true, true, true, true, true, true, true, false, false, false, false, false, false, false] rfl rfl (any_of HT_.out (by kernel_rfl)) (fun _ _ _ h => h) (Or.inl ⟨by rfl, ?_⟩) ?_ ?_
    rotate_left
    ·intro w'
     go_simp
     with_reducible rfl
    rotate_left
    ·simp only [Act.put, z0_, z1_, z2_, i64_w, i32_w]
     rfl
    refine pure_ (i := 23) (N := some 90) (v := ?_) (a' := ?_) #[true, true, true, true, true, true, true, true, true, true, true, true, true, true, true, true, true, true, true, true, true, true, true, true, false, false, false, false, false, false] rfl rfl (any_of HT_.out (by kernel_rfl)) (fun _ _ _ h => h) (Or.inl ⟨by rfl, ?_⟩) ?_ ?_
    rotate_left
    ·intro w'
     go_simp
     with_reducible rfl
    rotate_left
    ·simp only [Act.put, z0_, z1_, z2_, i64_w, i32_w]
     rfl
    refine pure_ (i := 25) (N := some 92) (v := ?_) (a' := ?_) #[true, true, true, true, true, true, true, true, true, true, true, true, true, true, true, true, true, true, true, true, true, true, true, true, false, true, false, false, false, false] rfl rfl (any_of HT_.out (by kernel_rfl)) (fun _ _ _ h => h) (Or.inl ⟨by rfl, ?_⟩) ?_ ?_
    rotate_left
    ·intro w'
     go_simp
     with_reducible rfl
    rotate_left
    ·simp only [Act.put, z0_, z1_, z2_, i64_w, i32_w]
     rfl
    refine take_ (i := 24) (N := some 91) (v := ?_) (a' := ?_) #[true, true, true, true, true, true, true, true, true, true, true, true, true, true, true, true, true, true, true, true, true, true, true, true, true, true, false, false, false, false] rfl rfl (take_ofW HT_.out HW_.out (by kernel_rfl)) (fun _ _ _ h => h) (Or.inl ⟨by rfl, ?_⟩) hHeld ?_ ?_
    rotate_left
    ·rintro w' ⟨s0, s1, s2, s3, s4, s5, s6⟩
     go_simp
     with_reducible rfl
    rotate_left
    ·simp only [Act.put, z0_, z1_, z2_, i64_w, i32_w]
     rfl
    refine one_ (i := 26) (N := some 93) #[true, true, true, true, true, true, true, true, true, true, true, true, true, true, true, true, true, true, true, true, true, true, true, true, true, true, true, false, false, false] rfl rfl (one_of HT_.out (by kernel_rfl)) (by decide) (fun K hK => ?_)
    refine goes_ Try.func61 (by kernel_rfl) rfl #[.slice A361_1 ((rd_T83 t341 x10_2).f1).length c361_1, .slice Ao43 y358.length co43] (by rfl) rfl rfl (by (try simp only [List.map_toArray, List.map_cons, List.map_nil]); first | done | rfl | (simp only [List.length_drop, List.length_take]; rfl)) ?_
    with_reducible refine (laws_sameMarks.calls k2 _ _ ((rd_T83 t341 x10_2).f1) _ _ y358 true _ ?side1 ?side2 ?side3 ?side4 A35.out).mono ?_
    (case side1 => exact Kd.C_below HR365_1.out lt_)
    (case side2 => exact HC365_1.out)
    (case side3 => exact Kd.C_below (Kd.R_reads' HO360.out).2.2 lt_)
    (case side4 => exact (Kd.R_reads' HO360.out).2.1)
    rintro e w' ⟨rfl, ⟨nd, rfl⟩⟩
    refine ⟨_, rfl, ?_⟩
    refine hK.out _ _ ⟨hHeld.1, hHeld.2.1, hHeld.2.2.1, hHeld.2.2.2.1, hHeld.2.2.2.2.1, hHeld.2.2.2.2.2.1, hHeld.2.2.2.2.2.2⟩ (fun hHeld => ?_)
    clear hK K
    refine norm_ (a' := ?_) ?_ ?_
    rotate_left
    ·show Act.put _ (some 93) _ = _
     simp only [Act.put, z0_, z1_, z2_, i64_w, i32_w]
     rfl
    refine pure_ (i := 27) (N := some 94) (v := ?_) (a' := ?_) #[true, true, true, true, true, true, true, true, true, true, true, true, true, true, true, true, true, true, true, true, true, true, true, true, true, true, true, true, false, false] rfl rfl (any_of HT_.out (by kernel_rfl)) (fun _ _ _ h => h) (Or.inl ⟨by rfl, ?_⟩) ?_ ?_
    rotate_left
    ·intro w'
     go_simp
     with_reducible rfl
    rotate_left
    ·simp only [Act.put, z0_, z1_, z2_, i64_w, i32_w]
     rfl
    refine pure_ (i := 28) (N := some 95) (v := ?_) (a' := ?_) #[true, true, true, true, true, true, true, true, true, true, true, true, true, true, true, true, true, true, true, true, true, true, true, true, true, true, true, true, true, false] rfl rfl (any_of HT_.out (by kernel_rfl)) (fun _ _ _ h => h) (Or.inl ⟨by rfl, ?_⟩) ?_ ?_
    rotate_left
    ·intro w'
     go_simp
     with_reducible rfl
    rotate_left
    ·simp only [Act.put, z0_, z1_, z2_, i64_w, i32_w]
     rfl
    refine pure_ (i := 29) (N := some 96) (v := ?_) (a' := ?_) #[true, true, true, true, true, true, true, true, true, true, true, true, true, true, true, true, true, true, true, true, true, true, true, true, true, true, true, true, true, true] rfl rfl (any_of HT_.out (by kernel_rfl)) (fun _ _ _ h => h) (Or.inl ⟨by rfl, ?_⟩) ?_ ?_
    rotate_left
    ·intro w'
     go_simp
     with_reducible rfl
    rotate_left
    ·simp only [Act.put, z0_, z1_, z2_, i64_w, i32_w]
     rfl
    refine done_ (done_of HT_.out (by kernel_rfl)) ?_
    try go_wp2
    go_roundg k2
    case measure => have := HJ5.out; have := HK2.out; omega
    case rel => exact ⟨(wrap64 (x10_2 + 1)), (by first | rfl | (simp; done) | (simp [*]; done)), H', ⟨by have := HJ5.out; have := HK2.out; omega⟩, ⟨Kd.S_below (Kd.S_mono HO_5.out (fun _ hk => trivial)) lt_⟩, ⟨Kd.S_below (Kd.S_mono HO_6.out (fun _ hk => trivial)) lt_⟩, ⟨below_at HB.out⟩⟩
   replace c36 := Bool.eq_false_iff.mpr c36
   subst c36
   rw [if_neg (show ¬ (false = true) by decide)] at H
   obtain rfl := Option.some.inj H
   obtain ⟨Ao44, co44, eo44⟩ := Kd.S_slice HO_6.out
   subst eo44
   try go_wp2_with (first | ((with_reducible refine gate_dst (N := 58) rfl ?_); (try (refine gate_guard (by rfl) ?_; dsimp only)); refine Kd.R_lit k81 _ 81 ?hg (N := 58) ?hd (xs := ([] : List (S81))) (inner := []) (ok := fun _ => True) (okp := fun _ => True) ?hr ?hp (fun _ hk => hk) trivial (Below.refl _ _) (Nat.le_refl _) (by simp) ?_; (case hd => rfl); (case hg => rfl); (case hr => first | (go_simp; done) | (go_simp; rfl)); (case hp => exact (Reps.none _ _)); intro v352 w45 ho46 hb hg_ hnew_; clear hg_ hnew_; (first | rw [← Ny351.out] at ho46 | (simp only [Int.reduceToNat] at ho46; rw [← Ny351.out] at ho46)); replace HO_5 := Aside0.mk (Kd.S_elder' (Kd.S_below HO_5.out lt_) (Kd.R_base ho46) hb); replace HO_6 := Aside0.mk (Kd.S_elder' (Kd.S_below HO_6.out lt_) (Kd.R_base ho46) hb); have HO353 := Aside0.mk (Kd.R_lower ho46 (below_size (below_at HB.out))); replace HB := Aside0.mk (below_step (below_at HB.out) hb); clear hb ho46; have p354 : 0 ≤ (x10_2 : Int) := of_decide_eq_true (by assumption); have q354 : x10_2 < (t338.length : Int) := of_decide_eq_true (by assumption); obtain ⟨ad354, A354_0, c354_0, e354, hx354_0, hl354_0, hi354_0⟩ := at_L2 (Kd.S_reads' HO_5.out).2.2 x10_2 p354 q354; cases e354; obtain ⟨ce354, hce354, hMe354, hcc354⟩ := Kd.S_get HO_5.out [] x10_2 p354 (by first | exact q354 | exact of_decide_eq_true (by assumption) | (have e_ := (Kd.S_reads' HO_5.out).1; omega)); obtain ⟨ve354_0, rfl, ge354_0⟩ := hMe354; have hv354_0 := hcc354 0 _ rfl; rw [Nat.add_zero, show ((Kd.slice 81 k81)).sz = 1 from rfl, Nat.mul_one] at hv354_0; replace hv354_0 := Option.some.inj (hv354_0.symm.trans hx354_0); rw [hv354_0] at ge354_0; have HL354_0 := Aside0.mk (show Kd.R k81 81 _ _ _ _ (rd_L2 t338 x10_2) from ge354_0); clear hv354_0 ge354_0; clear hcc354 hce354; have HR354_0 := Aside0.mk hi354_0; have HC354_0 := Aside0.mk hl354_0; clear hi354_0 hl354_0; replace p354 := eq_true p354; replace q354 := eq_true q354) | ((with_reducible refine gate_builtin (b := .append) (xs := #[.tmp 58, .tmp 62]) rfl ?_); (try (refine gate_guard (by rfl) ?_; dsimp only)); at_builtin; refine Kd.R_append_rows k81 (w0 := w) w.heap.size rfl (.tmp 58) (.tmp 62) 56 81 (.agg #[(.int .i64 0), (.int .i64 0)]) 16 rfl Try.underlying56 info81 rfl (by decide) (by omega) v352 y351 (rd_L2 t338 x10_2) _ _ _ (fun _ => True) (fun _ => False) rfl rfl ?aO ?aR (fun _ _ h => h) (fun _ h => h.elim) ?aF ?aB ?aS ?aL ?_; (case aR => exact Kd.C_below HR354_0.out lt_); (case aB => exact (below_at HB.out)); (case aF => exact (fun _ _ => trivial)); (case aO => exact (Kd.R_below HO353.out lt_)); (case aS => exact (below_size (below_at HB.out))); (case aL => have := LMc24.out; omega); intro v356 w47 ho hb hg hat; rw [← Ny355.out] at ho; replace HO_5 := Aside0.mk (Kd.S_after (ok := (fun _ => True)) (Kd.S_below HO_5.out lt_) hg hat); replace HO_6 := Aside0.mk (Kd.S_after (ok := (fun _ => True)) (Kd.S_below HO_6.out lt_) hg hat); replace HB := Aside0.mk (hb); have HO357 := Aside0.mk (ho); (try clear HL354_0 HO353); clear ho hb hg hat) | ((with_reducible refine gate_builtin (b := .append) (xs := #[.tmp 63, .tmp 65]) rfl ?_); (try (refine gate_guard (by rfl) ?_; dsimp only)); at_builtin; refine Kd.R_append k81 (w0 := w) w.heap.size rfl (.tmp 63) (.tmp 65) 56 81 (.agg #[(.int .i64 0), (.int .i64 0)]) 16 rfl Try.underlying56 info81 rfl (by decide) (by omega) v356 y355 (⟨2, 0⟩ : S81) [.int .i64 2, .int .i64 0] (fun _ => True) (fun _ => False) rfl rfl ?aP (fun _ hk => hk.elim) ?aF ?aO ?aB ?aS ?aL ?_; (case aP => exact k81_mkM _ _ _ (⟨2, 0⟩ : S81)); (case aB => exact (below_at HB.out)); (case aF => exact (fun _ _ => trivial)); (case aO => exact (Kd.R_below HO357.out lt_)); (case aS => exact (below_size (below_at HB.out))); (case aL => have := LMc25.out; omega); intro v359 w48 ho hb hg hat; rw [← Ny358.out] at ho; replace HO_5 := Aside0.mk (Kd.S_after (ok := (fun _ => True)) (Kd.S_below HO_5.out lt_) hg hat); replace HO_6 := Aside0.mk (Kd.S_after (ok := (fun _ => True)) (Kd.S_below HO_6.out lt_) hg hat); replace HB := Aside0.mk (hb); have HO360 := Aside0.mk (ho); (try clear HL354_0 HO357); clear ho hb hg hat))
   replace HO_5 := Aside0.mk (Kd.S_drew HO_5.out)
   replace HO_6 := Aside0.mk (Kd.S_drew HO_6.out)
   replace HO360 := Aside0.mk (Kd.R_drew HO360.out)
   replace HB := Aside0.mk (below_drew1 HB.out)
   (try clear HL354_0)
   have p361 : 0 ≤ (x10_2 : Int) := of_decide_eq_true (by assumption)
   have q361 : x10_2 < (t341.length : Int) := of_decide_eq_true (by assumption)
   obtain ⟨ad361, A361_1, c361_1, e361, hx361_0, hx361_1, hl361_1, hi361_1⟩ := at_T83 (Kd.S_reads' HO_6.out).2.2 x10_2 p361 q361
   cases e361
   obtain ⟨ce361, hce361, hMe361, hcc361⟩ := Kd.S_get HO_6.out z83 x10_2 p361 (by first | exact q361 | exact of_decide_eq_true (by assumption) | (have e_ := (Kd.S_reads' HO_6.out).1; omega))
   obtain ⟨ve361_1, rfl, ge361_1⟩ := k83_openM hMe361
   have hv361_1 := hcc361 1 _ rfl
   rw [add_field _ _ 1 (by omega)] at hv361_1
   replace hv361_1 := Option.some.inj (hv361_1.symm.trans hx361_1)
   rw [hv361_1] at ge361_1
   have HL361_1 := Aside0.mk (show Kd.R k81 81 _ _ _ _ ((rd_T83 t341 x10_2).f1) from ge361_1)
   clear hv361_1 ge361_1
   clear hcc361 hce361
   have HR361_1 := Aside0.mk hi361_1
   have HC361_1 := Aside0.mk hl361_1
   clear hi361_1 hl361_1
   replace p361 := eq_true p361
   replace q361 := eq_true q361
   have p362 : 0 ≤ (x10_2 : Int) := of_decide_eq_true (by assumption)
   have q362 : x10_2 < (t341.length : Int) := of_decide_eq_true (by assumption)
   obtain ⟨ad362, A362_1, c362_1, e362, hx362_0, hx362_1, hl362_1, hi362_1⟩ := at_T83 (Kd.S_reads' HO_6.out).2.2 x10_2 p362 q362
   obtain rfl : ad361 = ad362 := (by injection e362)
   obtain ⟨ce362, hce362, hMe362, hcc362⟩ := Kd.S_get HO_6.out z83 x10_2 p362 (by first | exact q362 | exact of_decide_eq_true (by assumption) | (have e_ := (Kd.S_reads' HO_6.out).1; omega))
   obtain ⟨ve362_1, rfl, ge362_1⟩ := k83_openM hMe362
   have hv362_1 := hcc362 1 _ rfl
   rw [add_field _ _ 1 (by omega)] at hv362_1
   replace hv362_1 := Option.some.inj (hv362_1.symm.trans hx362_1)
   rw [hv362_1] at ge362_1
   have HL362_1 := Aside0.mk (show Kd.R k81 81 _ _ _ _ ((rd_T83 t341 x10_2).f1) from ge362_1)
   clear hv362_1 ge362_1
   clear hcc362 hce362
   have HR362_1 := Aside0.mk hi362_1
   have HC362_1 := Aside0.mk hl362_1
   clear hi362_1 hl362_1
   replace p362 := eq_true p362
   replace q362 := eq_true q362
   have ea_ := Option.some.inj (hx361_1.symm.trans hx362_1)
   injection ea_ with ea_ en_ ec_
   subst ea_
   subst ec_
   clear en_
   have p363 : 0 ≤ (x10_2 : Int) := of_decide_eq_true (by assumption)
   have q363 : x10_2 < (t338.length : Int) := of_decide_eq_true (by assumption)
   obtain ⟨ad363, A363_0, c363_0, e363, hx363_0, hl363_0, hi363_0⟩ := at_L2 (Kd.S_reads' HO_5.out).2.2 x10_2 p363 q363
   obtain rfl : ad354 = ad363 := (by injection e363)
   obtain ⟨ce363, hce363, hMe363, hcc363⟩ := Kd.S_get HO_5.out [] x10_2 p363 (by first | exact q363 | exact of_decide_eq_true (by assumption) | (have e_ := (Kd.S_reads' HO_5.out).1; omega))
   obtain ⟨ve363_0, rfl, ge363_0⟩ := hMe363
   have hv363_0 := hcc363 0 _ rfl
   rw [Nat.add_zero, show ((Kd.slice 81 k81)).sz = 1 from rfl, Nat.mul_one] at hv363_0
   replace hv363_0 := Option.some.inj (hv363_0.symm.trans hx363_0)
   rw [hv363_0] at ge363_0
   have HL363_0 := Aside0.mk (show Kd.R k81 81 _ _ _ _ (rd_L2 t338 x10_2) from ge363_0)
   clear hv363_0 ge363_0
   clear hcc363 hce363
   have HR363_0 := Aside0.mk hi363_0
   have HC363_0 := Aside0.mk hl363_0
   clear hi363_0 hl363_0
   replace p363 := eq_true p363
   replace q363 := eq_true q363
   have p365 : 0 ≤ (x10_2 : Int) := of_decide_eq_true (by assumption)
   have q365 : x10_2 < (t341.length : Int) := of_decide_eq_true (by assumption)
   obtain ⟨ad365, A365_1, c365_1, e365, hx365_0, hx365_1, hl365_1, hi365_1⟩ := at_T83 (Kd.S_reads' HO_6.out).2.2 x10_2 p365 q365
   obtain rfl : ad361 = ad365 := (by injection e365)
   obtain ⟨ce365, hce365, hMe365, hcc365⟩ := Kd.S_get HO_6.out z83 x10_2 p365 (by first | exact q365 | exact of_decide_eq_true (by assumption) | (have e_ := (Kd.S_reads' HO_6.out).1; omega))
   obtain ⟨ve365_1, rfl, ge365_1⟩ := k83_openM hMe365
   have hv365_1 := hcc365 1 _ rfl
   rw [add_field _ _ 1 (by omega)] at hv365_1
   replace hv365_1 := Option.some.inj (hv365_1.symm.trans hx365_1)
   rw [hv365_1] at ge365_1
   have HL365_1 := Aside0.mk (show Kd.R k81 81 _ _ _ _ ((rd_T83 t341 x10_2).f1) from ge365_1)
   clear hv365_1 ge365_1
   clear hcc365 hce365
   have HR365_1 := Aside0.mk hi365_1
   have HC365_1 := Aside0.mk hl365_1
   clear hi365_1 hl365_1
   replace p365 := eq_true p365
   replace q365 := eq_true q365
   have ea_ := Option.some.inj (hx361_1.symm.trans hx365_1)
   injection ea_ with ea_ en_ ec_
   subst ea_
   subst ec_
   clear en_
   refine start_ (n := 30) (S := fun w' => w'.cell? (ad361.add ((x10_2).toNat * 2)) = some (.int .i64 ((rd_T83 t341 x10_2).f0)) ∧ w'.cell? ⟨(ad361.add ((x10_2).toNat * 2)).block, (ad361.add ((x10_2).toNat * 2)).off + 1, none⟩ = some (.slice A361_1 ((rd_T83 t341 x10_2).f1).length c361_1) ∧ w'.cell? (ad361.add ((x10_2).toNat * 2)) = some (.int .i64 ((rd_T83 t341 x10_2).f0)) ∧ w'.cell? ⟨(ad361.add ((x10_2).toNat * 2)).block, (ad361.add ((x10_2).toNat * 2)).off + 1, none⟩ = some (.slice A361_1 ((rd_T83 t341 x10_2).f1).length c361_1) ∧ w'.cell? (ad354.add (x10_2).toNat) = some (.slice A363_0 (rd_L2 t338 x10_2).length c363_0) ∧ w'.cell? (ad361.add ((x10_2).toNat * 2)) = some (.int .i64 ((rd_T83 t341 x10_2).f0)) ∧ w'.cell? ⟨(ad361.add ((x10_2).toNat * 2)).block, (ad361.add ((x10_2).toNat * 2)).off + 1, none⟩ = some (.slice A361_1 ((rd_T83 t341 x10_2).f1).length c361_1)) (ds := []) #[false, false, false, false, false, false, false, false, false, false, false, false, false, false, false, false, false, false, false, false, false, false, false, false, false, false, false, false, false, false] (by kernel_rfl) rfl rfl ⟨hx361_0, hx361_1, hx362_0, hx362_1, hx363_0, hx365_0, hx365_1⟩ (fun hHeld => ?_); refine with_tabW laws_FnMadeStory.tab14 laws_FnMadeStory.bits14 (fun HT_ HW_ => ?_)
   generalize w48.drew = w49 at HO360 HB HR361_1 HR362_1 HR363_0 HR365_1 hx361_0 hx361_1 hx362_0 hx362_1 hx363_0 hx365_0 hx365_1 hHeld ⊢
   refine pure_ (i := 0) (N := some 67) (v := ?_) (a' := ?_) #[true, false, false, false, false, false, false, false, false, false, false, false, false, false, false, false, false, false, false, false, false, false, false, false, false, false, false, false, false, false] rfl rfl (any_of HT_.out (by kernel_rfl)) (fun _ _ _ h => h) (Or.inl ⟨by rfl, ?_⟩) ?_ ?_
   rotate_left
   ·intro w'
    go_simp
    with_reducible rfl
   rotate_left
   ·simp only [Act.put, z0_, z1_, z2_, i64_w, i32_w]
    rfl
   refine pure_ (i := 1) (N := some 68) (v := ?_) (a' := ?_) #[true, true, false, false, false, false, false, false, false, false, false, false, false, false, false, false, false, false, false, false, false, false, false, false, false, false, false, false, false, false] rfl rfl (any_of HT_.out (by kernel_rfl)) (fun _ _ _ h => h) (Or.inl ⟨by rfl, ?_⟩) ?_ ?_
   rotate_left
   ·intro w'
    go_simp
    with_reducible rfl
   rotate_left
   ·simp only [Act.put, z0_, z1_, z2_, i64_w, i32_w]
    rfl
   refine pure_ (i := 2) (N := some 69) (v := ?_) (a' := ?_) #[true, true, true, false, false, false, false, false, false, false, false, false, false, false, false, false, false, false, false, false, false, false, false, false, false, false, false, false, false, false] rfl rfl (any_of HT_.out (by kernel_rfl)) (fun _ _ _ h => h) (Or.inl ⟨by rfl, ?_⟩) ?_ ?_
   rotate_left
   ·intro w'
    go_simp
    with_reducible rfl
   rotate_left
   ·simp only [Act.put, z0_, z1_, z2_, i64_w, i32_w]
    rfl
   refine pure_ (i := 3) (N := some 70) (v := ?_) (a' := ?_) #[true, true, true, true, false, false, false, false, false, false, false, false, false, false, false, false, false, false, false, false, false, false, false, false, false, false, false, false, false, false] rfl rfl (any_of HT_.out (by kernel_rfl)) (fun _ _ _ h => h) (Or.inl ⟨by rfl, ?_⟩) ?_ ?_
   rotate_left
   ·intro w'
    go_simp
    with_reducible rfl
   rotate_left
   ·simp only [Act.put, z0_, z1_, z2_, i64_w, i32_w]
    rfl
   refine pure_ (i := 5) (N := some 72) (v := ?_) (a' := ?_) #[true, true, true, true, false, true, false, false, false, false, false, false, false, false, false, false, false, false, false, false, false, false, false, false, false, false, false, false, false, false] rfl rfl (any_of HT_.out (by kernel_rfl)) (fun _ _ _ h => h) (Or.inl ⟨by rfl, ?_⟩) ?_ ?_
   rotate_left
   ·intro w'
    go_simp
    with_reducible rfl
   rotate_left
   ·simp only [Act.put, z0_, z1_, z2_, i64_w, i32_w]
    rfl
   refine take_ (i := 4) (N := some 71) (v := ?_) (a' := ?_) #[true, true, true, true, true, true, false, false, false, false, false, false, false, false, false, false, false, false, false, false, false, false, false, false, false, false, false, false, false, false] rfl rfl (take_ofW HT_.out HW_.out (by kernel_rfl)) (fun _ _ _ h => h) (Or.inl ⟨by rfl, ?_⟩) hHeld ?_ ?_
   rotate_left
   ·rintro w' ⟨s0, s1, s2, s3, s4, s5, s6⟩
    go_simp
    with_reducible rfl
   rotate_left
   ·simp only [Act.put, z0_, z1_, z2_, i64_w, i32_w]
    rfl
   refine pure_ (i := 6) (N := some 73) (v := ?_) (a' := ?_) #[true, true, true, true, true, true, true, false, false, false, false, false, false, false, false, false, false, false, false, false, false, false, false, false, false, false, false, false, false, false] rfl rfl (any_of HT_.out (by kernel_rfl)) (fun _ _ _ h => h) (Or.inl ⟨by rfl, ?_⟩) ?_ ?_
   rotate_left
   ·intro w'
    go_simp
    with_reducible rfl
   rotate_left
   ·simp only [Act.put, z0_, z1_, z2_, i64_w, i32_w]
    rfl
   refine pure_ (i := 7) (N := some 74) (v := ?_) (a' := ?_) #[true, true, true, true, true, true, true, true, false, false, false, false, false, false, false, false, false, false, false, false, false, false, false, false, false, false, false, false, false, false] rfl rfl (any_of HT_.out (by kernel_rfl)) (fun _ _ _ h => h) (Or.inl ⟨by rfl, ?_⟩) ?_ ?_
   rotate_left
   ·intro w'
    go_simp
    with_reducible rfl
   rotate_left
   ·simp only [Act.put, z0_, z1_, z2_, i64_w, i32_w]
    rfl
   refine pure_ (i := 8) (N := some 75) (v := ?_) (a' := ?_) #[true, true, true, true, true, true, true, true, true, false, false, false, false, false, false, false, false, false, false, false, false, false, false, false, false, false, false, false, false, false] rfl rfl (any_of HT_.out (by kernel_rfl)) (fun _ _ _ h => h) (Or.inl ⟨by rfl, ?_⟩) ?_ ?_
   rotate_left
   ·intro w'
    go_simp
    with_reducible rfl
   rotate_left
   ·simp only [Act.put, z0_, z1_, z2_, i64_w, i32_w]
    rfl
   refine pure_ (i := 9) (N := some 76) (v := ?_) (a' := ?_) #[true, true, true, true, true, true, true, true, true, true, false, false, false, false, false, false, false, false, false, false, false, false, false, false, false, false, false, false, false, false] rfl rfl (any_of HT_.out (by kernel_rfl)) (fun _ _ _ h => h) (Or.inl ⟨by rfl, ?_⟩) ?_ ?_
   rotate_left
   ·intro w'
    go_simp
    with_reducible rfl
   rotate_left
   ·simp only [Act.put, z0_, z1_, z2_, i64_w, i32_w]
    rfl
   refine pure_ (i := 10) (N := some 77) (v := ?_) (a' := ?_) #[true, true, true, true, true, true, true, true, true, true, true, false, false, false, false, false, false, false, false, false, false, false, false, false, false, false, false, false, false, false] rfl rfl (any_of HT_.out (by kernel_rfl)) (fun _ _ _ h => h) (Or.inl ⟨by rfl, ?_⟩) ?_ ?_
   rotate_left
   ·intro w'
    go_simp
    with_reducible rfl
   rotate_left
   ·simp only [Act.put, z0_, z1_, z2_, i64_w, i32_w]
    rfl
   refine pure_ (i := 11) (N := some 78) (v := ?_) (a' := ?_) #[true, true, true, true, true, true, true, true, true, true, true, true, false, false, false, false, false, false, false, false, false, false, false, false, false, false, false, false, false, false] rfl rfl (any_of HT_.out (by kernel_rfl)) (fun _ _ _ h => h) (Or.inl ⟨by rfl, ?_⟩) ?_ ?_
   rotate_left
   ·intro w'
    go_simp
    with_reducible rfl
   rotate_left
   ·simp only [Act.put, z0_, z1_, z2_, i64_w, i32_w]
    rfl
   refine pure_ (i := 13) (N := some 80) (v := ?_) (a' := ?_) #[true, true, true, true, true, true, true, true, true, true, true, true, false, true, false, false, false, false, false, false, false, false, false, false, false, false, false, false, false, false] rfl rfl (any_of HT_.out (by kernel_rfl)) (fun _ _ _ h => h) (Or.inl ⟨by rfl, ?_⟩) ?_ ?_
   rotate_left
   ·intro w'
    go_simp
    with_reducible rfl
   rotate_left
   ·simp only [Act.put, z0_, z1_, z2_, i64_w, i32_w]
    rfl
   refine pure_ (i := 14) (N := some 81) (v := ?_) (a' := ?_) #[true, true, true, true, true, true, true, true, true, true, true, true, false, true, true, false, false, false, false, false, false, false, false, false, false, false, false, false, false, false] rfl rfl (any_of HT_.out (by kernel_rfl)) (fun _ _ _ h => h) (Or.inl ⟨by rfl, ?_⟩) ?_ ?_
   rotate_left
   ·intro w'
    go_simp
    with_reducible rfl
   rotate_left
   ·simp only [Act.put, z0_, z1_, z2_, i64_w, i32_w]
    rfl
   refine pure_ (i := 15) (N := some 82) (v := ?_) (a' := ?_) #[true, true, true, true, true, true, true, true, true, true, true, true, false, true, true, true, false, false, false, false, false, false, false, false, false, false, false, false, false, false] rfl rfl (any_of HT_.out (by kernel_rfl)) (fun _ _ _ h => h) (Or.inl ⟨by rfl, ?_⟩) ?_ ?_
   rotate_left
   ·intro w'
    go_simp
    with_reducible rfl
   rotate_left
   ·simp only [Act.put, z0_, z1_, z2_, i64_w, i32_w]
    rfl
   refine take_ (i := 12) (N := some 79) (v := ?_) (a' := ?_) #[true, true, true, true, true, true, true, true, true, true, true, true, true, true, true, true, false, false, false, false, false, false, false, false, false, false, false, false, false, false] rfl rfl (take_ofW HT_.out HW_.out (by kernel_rfl)) (fun _ _ _ h => h) (Or.inl ⟨by rfl, ?_⟩) hHeld ?_ ?_
   rotate_left
   ·rintro w' ⟨s0, s1, s2, s3, s4, s5, s6⟩
    go_simp
    with_reducible rfl
   rotate_left
   ·simp only [Act.put, z0_, z1_, z2_, i64_w, i32_w]
    rfl
   refine take_ (i := 16) (N := some 83) (v := ?_) (a' := ?_) #[true, true, true, true, true, true, true, true, true, true, true, true, true, true, true, true, true, false, false, false, false, false, false, false, false, false, false, false, false, false] rfl rfl (take_ofW HT_.out HW_.out (by kernel_rfl)) (fun _ _ _ h => h) (Or.inl ⟨by rfl, ?_⟩) hHeld ?_ ?_
   rotate_left
   ·rintro w' ⟨s0, s1, s2, s3, s4, s5, s6⟩
    go_simp
    with_reducible rfl
   rotate_left
   ·simp only [Act.put, z0_, z1_, z2_, i64_w, i32_w]
    rfl
   refine one_ (i := 17) (N := some 84) #[true, true, true, true, true, true, true, true, true, true, true, true, true, true, true, true, true, true, false, false, false, false, false, false, false, false, false, false, false, false] rfl rfl (one_of HT_.out (by kernel_rfl)) (by decide) (fun K hK => ?_)
   refine goes_ Try.func61 (by kernel_rfl) rfl #[.slice A361_1 ((rd_T83 t341 x10_2).f1).length c361_1, .slice A363_0 (rd_L2 t338 x10_2).length c363_0] (by rfl) rfl rfl (by (try simp only [List.map_toArray, List.map_cons, List.map_nil]); first | done | rfl | (simp only [List.length_drop, List.length_take]; rfl)) ?_
   with_reducible refine (laws_sameMarks.calls k2 _ _ ((rd_T83 t341 x10_2).f1) _ _ (rd_L2 t338 x10_2) false _ ?side1 ?side2 ?side3 ?side4 A27.out).mono ?_
   (case side1 => exact Kd.C_below HR362_1.out lt_)
   (case side2 => exact HC362_1.out)
   (case side3 => exact Kd.C_below HR363_0.out lt_)
   (case side4 => exact HC363_0.out)
   rintro e w' ⟨rfl, ⟨nd, rfl⟩⟩
   refine ⟨_, rfl, ?_⟩
   obtain ⟨Ao50, co50, eo50⟩ := Kd.R_slice HO360.out
   (first | subst eo50 | (injection eo50 with f1_ f2_ f3_; have f4_ := f1_.symm; have f5_ := f3_.symm; clear f1_ f2_ f3_; subst f4_; subst f5_))
   refine hK.out _ _ ⟨hHeld.1, hHeld.2.1, hHeld.2.2.1, hHeld.2.2.2.1, hHeld.2.2.2.2.1, hHeld.2.2.2.2.2.1, hHeld.2.2.2.2.2.2⟩ (fun hHeld => ?_)
   clear hK K
   refine norm_ (a' := ?_) ?_ ?_
   rotate_left
   ·show Act.put _ (some 84) _ = _
    simp only [Act.put, z0_, z1_, z2_, i64_w, i32_w]
    rfl
   refine pure_ (i := 18) (N := some 85) (v := ?_) (a' := ?_) #[true, true, true, true, true, true, true, true, true, true, true, true, true, true, true, true, true, true, true, false, false, false, false, false, false, false, false, false, false, false] rfl rfl (any_of HT_.out (by kernel_rfl)) (fun _ _ _ h => h) (Or.inl ⟨by rfl, ?_⟩) ?_ ?_
   rotate_left
   ·intro w'
    go_simp
    with_reducible rfl
   rotate_left
   ·simp only [Act.put, z0_, z1_, z2_, i64_w, i32_w]
    rfl
   refine pure_ (i := 19) (N := some 86) (v := ?_) (a' := ?_) #[true, true, true, true, true, true, true, true, true, true, true, true, true, true, true, true, true, true, true, true, false, false, false, false, false, false, false, false, false, false] rfl rfl (any_of HT_.out (by kernel_rfl)) (fun _ _ _ h => h) (Or.inl ⟨by rfl, ?_⟩) ?_ ?_
   rotate_left
   ·intro w'
    go_simp
    with_reducible rfl
   rotate_left
   ·simp only [Act.put, z0_, z1_, z2_, i64_w, i32_w]
    rfl
   refine pure_ (i := 20) (N := some 87) (v := ?_) (a' := ?_) #[true, true, true, true, true, true, true, true, true, true, true, true, true, true, true, true, true, true, true, true, true, false, false, false, false, false, false, false, false, false] rfl rfl (any_of HT_.out (by kernel_rfl)) (fun _ _ _ h => h) (Or.inl ⟨by rfl, ?_⟩) ?_ ?_
   rotate_left
   ·intro w'
    go_simp
    with_reducible rfl
   rotate_left
   ·simp only [Act.put, z0_, z1_, z2_, i64_w, i32_w]
    rfl
   refine pure_ (i := 21) (N := some 88) (v := ?_) (a' := ?_) #[true, true, true, true, true, true, true, true, true, true, true, true, true, true, true, true, true, true, true, true, true, true, false, false, false, false, false, false, false, false] rfl rfl (any_of HT_.out (by kernel_rfl)) (fun _ _ _ h => h) (Or.inl ⟨by rfl, ?_⟩) ?_ ?_
   rotate_left
   ·intro w'
    go_simp
    with_reducible rfl
   rotate_left
   ·simp only [Act.put, z0_, z1_, z2_, i64_w, i32_w]
    rfl
   refine pure_ (i := 22) (N := some 89) (v := ?_) (a' := ?_) #[true, true, true, true, true, true, true, true, true, true, true, true, true, true, true, true, true, true, true, true, true, true, true, false, false, false, false, false, false, false] rfl rfl (any_of HT_.out (by kernel_rfl)) (fun _ _ _ h => h) (Or.inl ⟨by rfl, ?_⟩) ?_ ?_
   rotate_left
   ·intro w'
    go_simp
    with_reducible rfl
   rotate_left
   ·simp only [Act.put, z0_, z1_, z2_, i64_w, i32_w]
    rfl
   refine pure_ (i := 23) (N := some 90) (v := ?_) (a' := ?_) #[true, true, true, true, true, true, true, true, true, true, true, true, true, true, true, true, true, true, true, true, true, true, true, true, false, false, false, false, false, false] rfl rfl (any_of HT_.out (by kernel_rfl)) (fun _ _ _ h => h) (Or.inl ⟨by rfl, ?_⟩) ?_ ?_
   rotate_left
   ·intro w'
    go_simp
    with_reducible rfl
   rotate_left
   ·simp only [Act.put, z0_, z1_, z2_, i64_w, i32_w]
    rfl
   refine pure_ (i := 25) (N := some 92) (v := ?_) (a' := ?_) #[true, true, true, true, true, true, true, true, true, true, true, true, true, true, true, true, true, true, true, true, true, true, true, true, false, true, false, false, false, false] rfl rfl (any_of HT_.out (by kernel_rfl)) (fun _ _ _ h => h) (Or.inl ⟨by rfl, ?_⟩) ?_ ?_
   rotate_left
   ·intro w'
    go_simp
    with_reducible rfl
   rotate_left
   ·simp only [Act.put, z0_, z1_, z2_, i64_w, i32_w]
    rfl
   refine take_ (i := 24) (N := some 91) (v := ?_) (a' := ?_) #[true, true, true, true, true, true, true, true, true, true, true, true, true, true, true, true, true, true, true, true, true, true, true, true, true, true, false, false, false, false] rfl rfl (take_ofW HT_.out HW_.out (by kernel_rfl)) (fun _ _ _ h => h) (Or.inl ⟨by rfl, ?_⟩) hHeld ?_ ?_
   rotate_left
   ·rintro w' ⟨s0, s1, s2, s3, s4, s5, s6⟩
    go_simp
    with_reducible rfl
   rotate_left
   ·simp only [Act.put, z0_, z1_, z2_, i64_w, i32_w]
    rfl
   refine one_ (i := 26) (N := some 93) #[true, true, true, true, true, true, true, true, true, true, true, true, true, true, true, true, true, true, true, true, true, true, true, true, true, true, true, false, false, false] rfl rfl (one_of HT_.out (by kernel_rfl)) (by decide) (fun K hK => ?_)
   refine goes_ Try.func61 (by kernel_rfl) rfl #[.slice A361_1 ((rd_T83 t341 x10_2).f1).length c361_1, .slice Ao50 y358.length co50] (by rfl) rfl rfl (by (try simp only [List.map_toArray, List.map_cons, List.map_nil]); first | done | rfl | (simp only [List.length_drop, List.length_take]; rfl)) ?_
   with_reducible refine (laws_sameMarks.calls k2 _ _ ((rd_T83 t341 x10_2).f1) _ _ y358 false _ ?side1 ?side2 ?side3 ?side4 A35.out).mono ?_
   (case side1 => exact Kd.C_below HR365_1.out lt_)
   (case side2 => exact HC365_1.out)
   (case side3 => exact Kd.C_below (Kd.R_reads' HO360.out).2.2 lt_)
   (case side4 => exact (Kd.R_reads' HO360.out).2.1)
   rintro e w' ⟨rfl, ⟨nd, rfl⟩⟩
   refine ⟨_, rfl, ?_⟩
   refine hK.out _ _ ⟨hHeld.1, hHeld.2.1, hHeld.2.2.1, hHeld.2.2.2.1, hHeld.2.2.2.2.1, hHeld.2.2.2.2.2.1, hHeld.2.2.2.2.2.2⟩ (fun hHeld => ?_)
   clear hK K
   refine norm_ (a' := ?_) ?_ ?_
   rotate_left
   ·show Act.put _ (some 93) _ = _
    simp only [Act.put, z0_, z1_, z2_, i64_w, i32_w]
    rfl
   refine pure_ (i := 27) (N := some 94) (v := ?_) (a' := ?_) #[true, true, true, true, true, true, true, true, true, true, true, true, true, true, true, true, true, true, true, true, true, true, true, true, true, true, true, true, false, false] rfl rfl (any_of HT_.out (by kernel_rfl)) (fun _ _ _ h => h) (Or.inl ⟨by rfl, ?_⟩) ?_ ?_
   rotate_left
   ·intro w'
    go_simp
    with_reducible rfl
   rotate_left
   ·simp only [Act.put, z0_, z1_, z2_, i64_w, i32_w]
    rfl
   refine pure_ (i := 28) (N := some 95) (v := ?_) (a' := ?_) #[true, true, true, true, true, true, true, true, true, true, true, true, true, true, true, true, true, true, true, true, true, true, true, true, true, true, true, true, true, false] rfl rfl (any_of HT_.out (by kernel_rfl)) (fun _ _ _ h => h) (Or.inl ⟨by rfl, ?_⟩) ?_ ?_
   rotate_left
   ·intro w'
    go_simp
    with_reducible rfl
   rotate_left
   ·simp only [Act.put, z0_, z1_, z2_, i64_w, i32_w]
    rfl
   refine pure_ (i := 29) (N := some 96) (v := ?_) (a' := ?_) #[true, true, true, true, true, true, true, true, true, true, true, true, true, true, true, true, true, true, true, true, true, true, true, true, true, true, true, true, true, true] rfl rfl (any_of HT_.out (by kernel_rfl)) (fun _ _ _ h => h) (Or.inl ⟨by rfl, ?_⟩) ?_ ?_
   rotate_left
   ·intro w'
    go_simp
    with_reducible rfl
   rotate_left
   ·simp only [Act.put, z0_, z1_, z2_, i64_w, i32_w]
    rfl
   refine done_ (done_of HT_.out (by kernel_rfl)) ?_
   try go_wp2
   go_ret
   exact ⟨by first | rfl | (simp [errW_none, errW_some] <;> rfl) | (simp [*, errW_none, errW_some] <;> rfl), below_at HB.out⟩

/-- THE ONE PURE STATEMENT of laws_FnMadeStory: yours. -/
def laws_FnMadeStory.Pure : Prop := ∀ (l0 : List Int), l0.length ≤ maxLen → l0.length * 1 ≤ 140737488351232 → (∀ x ∈ l0, (Lit.int .u8 x).wf = true) → ∃ k, laws_FnMadeStory.f k l0 = some true
theorem laws_FnMadeStory.walk (P : laws_FnMadeStory.Pure) (a0 : Option Addr) (len0 cap0 : Nat) (z0 : List Int) (w : World) (w0 : (a0 = none ∧ len0 = 0 ∧ cap0 = 0 ∧ z0 = []) ∨ ∃ x, a0 = some x ∧ len0 ≤ cap0 ∧ cap0 ≤ maxLen ∧ z0.length = cap0 ∧ (∀ i, i < z0.length → w.cell? (x.add i) = some (.int .u8 (z0.getD i 0))) ∧ ∀ n ∈ z0, (Lit.int .u8 n).wf = true) (y0 : len0 * 1 ≤ 140737488351232) :
  Calls Try.prog 13 #[.slice a0 len0 cap0] w fun e w' => e = .returned (.bool true) ∧ Below w.heap.size w w' := by
 obtain ⟨l0, rfl, hr0, hm0, hw0, hc0⟩ := ReadsInt.ofRowC w0
 obtain ⟨k, h⟩ := P l0 hm0 y0 hw0
 refine (laws_FnMadeStory.calls k _ _ l0 true w (Kd.C_of_reads (d := (0 : Int)) (h1 := fun _ => rfl) hr0) hc0 h).mono ?_
 rintro e w' ⟨rfl, hd⟩
 exact ⟨rfl, hd⟩

end Go.Proofs.Ytbhmippoeimliaa.P

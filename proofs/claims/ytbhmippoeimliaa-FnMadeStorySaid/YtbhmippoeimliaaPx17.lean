/- Written by our program myprint.py out of Lean's print of the translation: Go's function comes to just the answer of the Lean function told here. -/
import Derived.Test.YtbhmippoeimliaaPx0
import Derived.Test.YtbhmippoeimliaaPx15
import Derived.Test.YtbhmippoeimliaaPx16
namespace Go.Proofs.Ytbhmippoeimliaa.P
open Go.RowKit Go.Proofs.YtbhmippoeimliaaW.PrintWords Go.Proofs.YtbhmippoeimliaaW.PrintLast Go.Proofs.YtbhmippoeimliaaW.PrintMore
attribute [local go_sem] max2_int min2_int max_two min_two max_three min_three max_four min_four   -- for this text's walks alone
set_option linter.unusedVariables false
set_option linter.unusedSimpArgs false

/-! ### spec_DrawMadeStory: function 60 -/
def spec_DrawMadeStory.l0 : Nat → Int → Int → List (List (S81)) → Int → List Int → Int → Option (Int × Int × (List (List (S81))))
 | 0, _, _, _, _, _, _ => none
 | k + 1, x6, x7, x8, x9, x318000, x318001 => if x9 > 0 then ((spec_l20Term.f k x318000 x318001 x6 30).bind fun bt328 => (if x8.length < 5864062014805 then (spec_DrawMadeStory.l0 k x6 x7 (x8 ++ [bt328.1]) (wrap64 (x9 - 1)) x318000 bt328.2) else (none))) else (some (x6, x7, x8))
def spec_DrawMadeStory.f (k : Nat) (l0 : List Int) : Option (Int × Int × (List (List (S81)))) := (spec_l20Open.f l0).bind fun bt315 => ((spec_l20World.f k bt315.1 bt315.2).bind fun bt318 => ((spec_l20Rd_pick.f k bt315.1 bt318.2.2 (wrap64 ((mn bt318.1 4) + 1))).bind fun bt324 => ((spec_l20Rd_pick.f k bt315.1 bt324.2 40).bind fun bt326 => (spec_DrawMadeStory.l0 k bt318.1 bt318.2.1 (([] : List (List (S81)))) (wrap64 (bt324.1 + (wrap64 (Int.tdiv bt326.1 39)))) bt315.1 bt326.2))))
theorem spec_DrawMadeStory.mono_l : ∀ k, (∀ y0 y1 y2 y3 y4 y5, LeO (spec_DrawMadeStory.l0 k y0 y1 y2 y3 y4 y5) (spec_DrawMadeStory.l0 (k + 1) y0 y1 y2 y3 y4 y5))
 | 0 => fun _ _ _ _ _ _ r h => by simp [spec_DrawMadeStory.l0] at h
 | k + 1 => by
  have ih0 := spec_DrawMadeStory.mono_l k
  ·intro y0 y1 y2 y3 y4 y5
   unfold spec_DrawMadeStory.l0
   repeat' first
   | (with_reducible exact ih0 _ _ _ _ _ _)
   | (with_reducible exact spec_l20Rd_pick.mono _ _ _ _)
   | (with_reducible exact spec_l20Term.mono _ _ _ _ _)
   | (with_reducible exact spec_l20World.mono _ _ _)
   | (with_reducible exact LeO.refl _)
   | (with_reducible exact LeO.none _)
   | (with_reducible refine LeO.ite ?_ ?_)
   | (with_reducible refine LeO.bind ?_ (fun _ => ?_))
   | exact ih0 _ _ _ _ _ _
   | exact spec_l20Rd_pick.mono _ _ _ _
   | exact spec_l20Term.mono _ _ _ _ _
   | exact spec_l20World.mono _ _ _
   | exact LeO.none _
   | refine LeO.ite ?_ ?_
   | refine LeO.bind ?_ (fun _ => ?_)
theorem spec_DrawMadeStory.mono : ∀ a0 k, LeO (spec_DrawMadeStory.f k a0) (spec_DrawMadeStory.f (k + 1) a0) := by
 intro a0 k
 have ih0 := spec_DrawMadeStory.mono_l k
 unfold spec_DrawMadeStory.f
 repeat' first
   | (with_reducible exact ih0 _ _ _ _ _ _)
   | (with_reducible exact spec_l20Rd_pick.mono _ _ _ _)
   | (with_reducible exact spec_l20Term.mono _ _ _ _ _)
   | (with_reducible exact spec_l20World.mono _ _ _)
   | (with_reducible exact LeO.refl _)
   | (with_reducible exact LeO.none _)
   | (with_reducible refine LeO.ite ?_ ?_)
   | (with_reducible refine LeO.bind ?_ (fun _ => ?_))
   | exact ih0 _ _ _ _ _ _
   | exact spec_l20Rd_pick.mono _ _ _ _
   | exact spec_l20Term.mono _ _ _ _ _
   | exact spec_l20World.mono _ _ _
   | exact LeO.none _
   | refine LeO.ite ?_ ?_
   | refine LeO.bind ?_ (fun _ => ?_)
set_option maxHeartbeats 8000000 in
set_option maxRecDepth 100000 in
theorem spec_DrawMadeStory.calls (k : Nat) (A0 : Option Addr) (c0 : Nat) (l0 : List Int) (r1 : Int) (r2 : Int) (r3 : List (List (S81))) (w : World) (hr0 : Kd.C (Kd.int .u8) w A0 l0.length l0) (hc0 : l0.length ≤ c0) (h : spec_DrawMadeStory.f k l0 = some (r1, r2, r3)) :
  Calls Try.prog 60 #[.slice A0 l0.length c0] w fun e w' => ∃ v2_ : Value, e = .returned (.tuple #[.int .i64 r1, .int .i64 r2, v2_]) ∧ Kd.S (Kd.slice 81 k81) 56 w' w.heap.size (fun _ => True) v2_ r3 ∧ Below w.heap.size w w' := by
 have HR0 := Aside0.mk hr0
 have HC0 := Aside0.mk hc0
 clear hr0 hc0
 have HB := Aside0.mk (Below.refl w.heap.size w)
 have H : ((spec_l20Open.f l0).bind fun bt315 => ((spec_l20World.f k bt315.1 bt315.2).bind fun bt318 => ((spec_l20Rd_pick.f k bt315.1 bt318.2.2 (wrap64 ((mn bt318.1 4) + 1))).bind fun bt324 => ((spec_l20Rd_pick.f k bt315.1 bt324.2 40).bind fun bt326 => (spec_DrawMadeStory.l0 k bt318.1 bt318.2.1 (([] : List (List (S81)))) (wrap64 (bt324.1 + (wrap64 (Int.tdiv bt326.1 39)))) bt315.1 bt326.2))))) = some (r1, r2, r3) := h
 clear h
 replace H := Option.bind_eq_some_iff.mp H
 obtain ⟨⟨t315, t316⟩, A20, H⟩ := H
 try dsimp only at H
 have A2 := Aside0.mk A20
 clear A20
 replace H := Option.bind_eq_some_iff.mp H
 obtain ⟨⟨t318, t319, t320⟩, A30, H⟩ := H
 try dsimp only at H
 have A3 := Aside0.mk A30
 clear A30
 obtain ⟨y321, hy321⟩ : ∃ y_ : List (List (S81)), y_ = (([] : List (List (S81)))) := ⟨_, rfl⟩
 replace H : ((spec_l20Rd_pick.f k t315 t320 (wrap64 ((mn t318 4) + 1))).bind fun bt324 => ((spec_l20Rd_pick.f k t315 bt324.2 40).bind fun bt326 => (spec_DrawMadeStory.l0 k t318 t319 y321 (wrap64 (bt324.1 + (wrap64 (Int.tdiv bt326.1 39)))) t315 bt326.2))) = some (r1, r2, r3) := by first | (rw [hy321]; exact H) | exact H
 have Ny321 := Aside0.mk hy321
 clear hy321
 obtain ⟨ji4, hji4⟩ : ∃ j_ : Int, (mn t318 4) = j_ := ⟨_, rfl⟩
 replace H : ((spec_l20Rd_pick.f k t315 t320 (wrap64 ((ji4) + 1))).bind fun bt324 => ((spec_l20Rd_pick.f k t315 bt324.2 40).bind fun bt326 => (spec_DrawMadeStory.l0 k t318 t319 y321 (wrap64 (bt324.1 + (wrap64 (Int.tdiv bt326.1 39)))) t315 bt326.2))) = some (r1, r2, r3) := by first | (rw [hji4] at H; exact H) | (simp only [hji4] at H ⊢; exact H)
 (try rw [hji4] at A2)
 (try rw [hji4] at A3)
 (try (have hji4h : ji4 ≤ 4 := by (rw [← hji4]; unfold mn; (repeat' split) <;> omega)))
 (try (have hji4g : ji4 ≤ 64 := by omega))
 have hji4_ : (if 4 < t318 then 4 else t318) = ji4 := hji4
 replace H := Option.bind_eq_some_iff.mp H
 obtain ⟨⟨t324, t325⟩, A50, H⟩ := H
 try dsimp only at H
 have A5 := Aside0.mk A50
 clear A50
 replace H := Option.bind_eq_some_iff.mp H
 obtain ⟨⟨t326, t327⟩, A60, H⟩ := H
 try dsimp only at H
 have A6 := Aside0.mk A60
 clear A60
 have H' := Aside0.mk H
 clear H
 go_enter Try.func60, Try.ntmps60
 go_wp2_with (first | ((with_reducible refine gate_callee (f := 66) rfl ?_); refine goesL_ (some 11) rfl rfl Try.func66 (by kernel_rfl) rfl #[.slice A0 l0.length c0] rfl (by (try simp only [List.map_toArray, List.map_cons, List.map_nil]); first | done | rfl | (simp only [List.length_drop, List.length_take]; rfl)) ?_; (with_reducible refine (spec_l20Open.calls _ _ l0 t315 t316 w _ ?side1 ?side2 ?side3 A2.out).mono ?_); (case side1 => exact below_at HB.out); (case side2 => exact HR0.out); (case side3 => exact HC0.out); rintro e w7 ⟨g317, rfl, hi, hb, hb2⟩; refine ⟨_, rfl, ?_⟩; replace HB := Aside0.mk (hb); have HI317 := Aside0.mk (hi); (try clear hb); (try clear hb2); (try clear hk); (try clear hi)) | ((with_reducible refine gate_callee (f := 106) rfl ?_); refine goesL_ (some 14) rfl rfl Try.func106 (by kernel_rfl) rfl #[.pointer (some ⟨g317, 0, none⟩)] rfl (by (try simp only [List.map_toArray, List.map_cons, List.map_nil]); first | done | rfl | (simp only [List.length_drop, List.length_take]; rfl)) ?_; (with_reducible refine (spec_l20World.calls k g317 t315 t316 t318 t319 t320 w _ ?side1 ?side2 A3.out).mono ?_); (case side1 => exact IsS124.below HI317.out lt_); (case side2 => exact below_at HB.out); rintro e w8 ⟨rfl, hi, hb, hk⟩; refine ⟨_, rfl, ?_⟩; replace HB := Aside0.mk (hb); replace HI317 := Aside0.mk (hi); (try clear hb); (try clear hb2); (try clear hk); (try clear hi)) | ((with_reducible refine gate_dst (N := 17) rfl ?_); refine Kd.S_lit (Kd.slice 81 k81) _ 56 ?hg (N := 17) ?hd (xs := ([] : List (List (S81)))) (inner := []) (ok := fun _ => True) (okp := fun _ => True) ?hr ?hp (fun _ hk => hk) trivial (Below.refl _ _) (Nat.le_refl _) (by simp) ?_; (case hd => rfl); (case hg => rfl); (case hr => first | (go_simp; done) | (go_simp; rfl)); (case hp => exact (Reps.none _ _)); intro v322 w9 ho10 hb hg_ hnew_; clear hg_ hnew_; (first | rw [← Ny321.out] at ho10 | (simp only [Int.reduceToNat] at ho10; rw [← Ny321.out] at ho10)); have HO323 := Aside0.mk (Kd.S_lower ho10 (below_size (below_at HB.out))); replace HI317 := Aside0.mk (IsS124.below (IsS124.below HI317.out lt_) hb); replace HB := Aside0.mk (below_step (below_at HB.out) hb); clear hb ho10) | ((with_reducible refine gate_callee (f := 107) rfl ?_); refine goesL_ (some 22) rfl rfl Try.func107 (by kernel_rfl) rfl #[.pointer (some ⟨g317, 0, none⟩), .int .i64 (wrap64 ((ji4) + 1))] rfl (by (try simp only [List.map_toArray, List.map_cons, List.map_nil]); first | done | (simp only [hji4]; rfl) | rfl | (simp only [List.length_drop, List.length_take]; rfl)) ?_; (with_reducible refine (spec_l20Rd_pick.calls k g317 t315 t320 (wrap64 ((ji4) + 1)) t324 t325 w _ ?side1 ?side2 A5.out).mono ?_); (case side1 => exact IsS124.below HI317.out lt_); (case side2 => exact below_at HB.out); rintro e w11 ⟨rfl, hi, hb, hk⟩; refine ⟨_, rfl, ?_⟩; replace HO323 := Aside0.mk (Kd.S_mono (Kd.S_keep (IsS124.apartS (show IsS124 w _ g317 t315 t320 from IsS124.below HI317.out lt_) (Kd.S_below HO323.out lt_) (by decide)) hk (fun _ h => h.2)) (fun _ h => h.1)); replace HB := Aside0.mk (hb); replace HI317 := Aside0.mk (hi); (try clear hb); (try clear hb2); (try clear hk); (try clear hi)) | ((with_reducible refine gate_callee (f := 107) rfl ?_); refine goesL_ (some 24) rfl rfl Try.func107 (by kernel_rfl) rfl #[.pointer (some ⟨g317, 0, none⟩), .int .i64 40] rfl (by (try simp only [List.map_toArray, List.map_cons, List.map_nil]); first | done | rfl | (simp only [List.length_drop, List.length_take]; rfl)) ?_; (with_reducible refine (spec_l20Rd_pick.calls k g317 t315 t325 40 t326 t327 w _ ?side1 ?side2 A6.out).mono ?_); (case side1 => exact IsS124.below HI317.out lt_); (case side2 => exact below_at HB.out); rintro e w12 ⟨rfl, hi, hb, hk⟩; refine ⟨_, rfl, ?_⟩; replace HO323 := Aside0.mk (Kd.S_mono (Kd.S_keep (IsS124.apartS (show IsS124 w _ g317 t315 t325 from IsS124.below HI317.out lt_) (Kd.S_below HO323.out lt_) (by decide)) hk (fun _ h => h.2)) (fun _ h => h.1)); replace HB := Aside0.mk (hb); replace HI317 := Aside0.mk (hi); (try clear hb); (try clear hb2); (try clear hk); (try clear hi)))
 go_loopg [8, 9] k (fun kq v8 v9 w' => ∃ (x8_1 : List (List (S81))) (x9_1 : Int) (x318001_1 : Int), v9 = .int .i64 x9_1 ∧ Aside0 (spec_DrawMadeStory.l0 kq t318 t319 x8_1 x9_1 t315 x318001_1 = some (r1, r2, r3)) ∧ Aside0 (kq ≤ k) ∧ Aside0 (Kd.S (Kd.slice 81 k81) 56 w' w.heap.size (fun _ => True) v8 x8_1) ∧ Aside0 (IsS124 w w' g317 t315 x318001_1) ∧ Aside0 (Below w.heap.size w w'))
 case atStart => exact ⟨(y321), (wrap64 (t324 + (wrap64 (Int.tdiv t326 39)))), (t327), (by first | rfl | (simp; done) | (simp [*]; done)), H', ⟨Nat.le_refl _⟩, ⟨Kd.S_below HO323.out lt_⟩, ⟨IsS124.below HI317.out lt_⟩, ⟨below_at HB.out⟩⟩
 clear H'
 try clear c1
 try clear p2
 try clear c6
 try clear p6
 try clear c10
 obtain ⟨x8_1, x9_1, x318001_1, rfl, HA, HK1, HO_8, HI317, HB⟩ := hrel
 cases gk with
 | zero => exact absurd HA.out (by simp [spec_DrawMadeStory.l0])
 | succ k1 =>
  have H := HA.out
  clear HA
  simp only [spec_DrawMadeStory.l0] at H
  by_cases c13 : x9_1 > 0
  rotate_left
  ·rw [if_neg c13] at H
   have c13b0 : decide (0 < x9_1) = false := decide_eq_false c13
   clear c13
   simp only [Option.some.injEq, Prod.mk.injEq] at H
   obtain ⟨rfl, rfl, rfl⟩ := H
   go_wp2
   go_ret3
   exact ⟨_, by first | rfl | (simp [errW_none, errW_some] <;> rfl) | (simp only [← hji4]; first | rfl | (simp [errW_none, errW_some] <;> rfl)) | (simp [*, errW_none, errW_some] <;> rfl), by (with_reducible repeat (first | apply Kd.S_alloc | apply Kd.S_drewN | apply Kd.S_drew)); exact HO_8.out, below_at HB.out⟩
  rw [if_pos c13] at H
  have c13b0 : decide (0 < x9_1) = true := decide_eq_true c13
  clear c13
  replace H := Option.bind_eq_some_iff.mp H
  obtain ⟨⟨t328, t331⟩, A140, H⟩ := H
  try dsimp only at H
  have A14 := Aside0.mk A140
  clear A140
  by_cases c15 : x8_1.length < 5864062014805
  rotate_left
  ·rw [if_neg c15] at H
   exact absurd H (by simp)
  rw [if_pos c15] at H
  have LMc15 := Aside0.mk c15
  clear c15
  obtain ⟨y332, hy332⟩ : ∃ y_ : List (List (S81)), y_ = (x8_1 ++ [t328]) := ⟨_, rfl⟩
  replace H : (spec_DrawMadeStory.l0 k1 t318 t319 y332 (wrap64 (x9_1 - 1)) t315 t331) = some (r1, r2, r3) := by first | (rw [hy332]; exact H) | exact H
  have Ny332 := Aside0.mk hy332
  clear hy332
  have H' := Aside0.mk H
  clear H
  go_wp2_with (first | ((with_reducible refine gate_callee (f := 108) rfl ?_); refine goesL_ (some 34) rfl rfl Try.func108 (by kernel_rfl) rfl #[.pointer (some ⟨g317, 0, none⟩), .int .i64 t318, .int .i64 30] rfl (by (try simp only [List.map_toArray, List.map_cons, List.map_nil]); first | done | rfl | (simp only [List.length_drop, List.length_take]; rfl)) ?_; (with_reducible refine (spec_l20Term.calls k1 g317 t315 x318001_1 t318 30 t328 t331 w _ ?side1 ?side2 A14.out).mono ?_); (case side1 => exact IsS124.below HI317.out lt_); (case side2 => exact below_at HB.out); rintro e w16 ⟨v329, rfl, ho0, hi, hb, hk⟩; refine ⟨_, rfl, ?_⟩; replace HO_8 := Aside0.mk (Kd.S_mono (Kd.S_told (Kd.S_oldK (IsS124.apartS (show IsS124 w _ g317 t315 x318001_1 from IsS124.below HI317.out lt_) (Kd.S_below HO_8.out lt_) (by decide)) hk) (Kd.R_base ho0)) (fun _ h_ => h_.1)); have HO330 := Aside0.mk (Kd.R_lower ho0 (below_size (below_at HB.out))); replace HB := Aside0.mk (hb); replace HI317 := Aside0.mk (hi); (try clear hb); (try clear hb2); (try clear hk); (try clear hi); (try clear ho0); obtain ⟨Ao18, co18, eo18⟩ := Kd.R_slice HO330.out; subst eo18) | ((with_reducible refine gate_builtin (b := .append) (xs := #[.tmp 31, .tmp 35]) rfl ?_); at_builtin; refine Kd.S_append (Kd.slice 81 k81) (w0 := w) w.heap.size rfl (.tmp 31) (.tmp 35) 73 56 (.slice none 0 0) 24 rfl Try.underlying73 info56 rfl (by decide) (by omega) u8 x8_1 t328 [.slice Ao18 t328.length co18] (fun _ => True) (fun k_ => some k_ = (.slice Ao18 t328.length co18 : Value).ownBlock) rfl rfl ?aP (fun k_ hk_ => ((Kd.R_mono (ok' := fun k_ => ((fun _ => True)) k_ ∧ some k_ ≠ (u8 : Value).ownBlock) (Kd.R_apart' (HO330.out) (Kd.S_typed HO_8.out) (by decide)) (fun k_ hk => ⟨trivial, hk.2⟩))).1 k_ hk_.symm) ?aF ?aO ?aB ?aS ?aL ?_; (case aP => exact Kd.M_row (Kd.R_mono (Kd.R_tight rfl (Kd.R_mono (ok' := fun k_ => ((fun _ => True)) k_ ∧ some k_ ≠ (u8 : Value).ownBlock) (Kd.R_apart' (HO330.out) (Kd.S_typed HO_8.out) (by decide)) (fun k_ hk => ⟨trivial, hk.2⟩))) (fun _ h_ => h_))); (case aB => exact (below_at HB.out)); (case aF => exact (fun _ _ => trivial)); (case aO => exact (Kd.S_below (Kd.S_mono HO_8.out (fun k_ hk => ⟨trivial, fun e_ => hk.2 e_⟩)) lt_)); (case aS => exact (below_size (below_at HB.out))); (case aL => have := LMc15.out; omega); intro v333 w17 ho hb hg hat; rw [← Ny332.out] at ho; replace HI317 := Aside0.mk (IsS124.grown (IsS124.below HI317.out lt_) hg (IsS124.own_neS HI317.out HO_8.out (by decide))); replace HB := Aside0.mk (hb); have HO334 := Aside0.mk (ho); (try clear HO_8 HO330); clear ho hb hg hat))
  go_roundg k1
  case measure => have := HK1.out; omega
  case rel => exact ⟨(y332), (wrap64 (x9_1 - 1)), (t331), (by first | rfl | (simp; done) | (simp [*]; done)), H', ⟨by have := HK1.out; omega⟩, ⟨Kd.S_below HO334.out lt_⟩, ⟨IsS124.below HI317.out lt_⟩, ⟨below_at HB.out⟩⟩

/-! ### laws_hasInt: function 62 -/
def laws_hasInt.l0 : Nat → List Int → Int → Int → Option (Bool)
 | 0, _, _, _ => none
 | k + 1, x0, x1, x5 => if x5 < (x0.length : Int) then (if 0 ≤ x5 then (if (rd x0 x5) = x1 then (some true) else (laws_hasInt.l0 k x0 x1 (wrap64 (x5 + 1)))) else (none)) else (some false)
def laws_hasInt.f (k : Nat) (l0 : List Int) (a1 : Int) : Option (Bool) := laws_hasInt.l0 k l0 a1 0
theorem laws_hasInt.mono_l : ∀ k, (∀ y0 y1 y2, LeO (laws_hasInt.l0 k y0 y1 y2) (laws_hasInt.l0 (k + 1) y0 y1 y2))
 | 0 => fun _ _ _ r h => by simp [laws_hasInt.l0] at h
 | k + 1 => by
  have ih0 := laws_hasInt.mono_l k
  ·intro y0 y1 y2
   unfold laws_hasInt.l0
   repeat' first
   | (with_reducible exact ih0 _ _ _)
   | (with_reducible exact LeO.refl _)
   | (with_reducible exact LeO.none _)
   | (with_reducible refine LeO.ite ?_ ?_)
   | (with_reducible refine LeO.bind ?_ (fun _ => ?_))
   | exact ih0 _ _ _
   | exact LeO.none _
   | refine LeO.ite ?_ ?_
   | refine LeO.bind ?_ (fun _ => ?_)
theorem laws_hasInt.mono : ∀ a0 a1 k, LeO (laws_hasInt.f k a0 a1) (laws_hasInt.f (k + 1) a0 a1) := by
 intro a0 a1 k
 have ih0 := laws_hasInt.mono_l k
 unfold laws_hasInt.f
 repeat' first
   | (with_reducible exact ih0 _ _ _)
   | (with_reducible exact LeO.refl _)
   | (with_reducible exact LeO.none _)
   | (with_reducible refine LeO.ite ?_ ?_)
   | (with_reducible refine LeO.bind ?_ (fun _ => ?_))
   | exact ih0 _ _ _
   | exact LeO.none _
   | refine LeO.ite ?_ ?_
   | refine LeO.bind ?_ (fun _ => ?_)
set_option maxHeartbeats 8000000 in
set_option maxRecDepth 100000 in
theorem laws_hasInt.calls (k : Nat) (A0 : Option Addr) (c0 : Nat) (l0 : List Int) (a1 : Int) (r : Bool) (w : World) (hr0 : Kd.C (Kd.int .i64) w A0 l0.length l0) (hc0 : l0.length ≤ c0) (h : laws_hasInt.f k l0 a1 = some r) :
  Calls Try.prog 62 #[.slice A0 l0.length c0, .int .i64 a1] w fun e w' => e = .returned (.bool r) ∧ Drawn0 w w' := by
 have HR0 := Aside0.mk hr0
 have HC0 := Aside0.mk hc0
 clear hr0 hc0
 have H : (laws_hasInt.l0 k l0 a1 0) = some r := h
 clear h
 have H' := Aside0.mk H
 clear H
 go_enter Try.func62, Try.ntmps62
 go_wp2
 go_loopg [5] k (fun kq v5 w' => ∃ (x5_1 : Int), v5 = .int .i64 x5_1 ∧ Aside0 (laws_hasInt.l0 kq l0 a1 x5_1 = some r) ∧ Aside0 (kq ≤ k) ∧ Drawn0 w w')
 case atStart => exact ⟨(0), (by first | rfl | (simp; done) | (simp [*]; done)), H', ⟨Nat.le_refl _⟩, by repeat (first | exact Drawn0.refl _ | apply Drawn0.step)⟩
 clear H'
 try clear p2
 obtain ⟨x5_1, rfl, HA, HK1, ⟨m1, rfl⟩⟩ := hrel
 cases gk with
 | zero => exact absurd HA.out (by simp [laws_hasInt.l0])
 | succ k1 =>
  have H := HA.out
  clear HA
  simp only [laws_hasInt.l0] at H
  by_cases c3 : x5_1 < (l0.length : Int)
  rotate_left
  ·rw [if_neg c3] at H
   have c3b0 : decide (x5_1 < (l0.length : Int)) = false := decide_eq_false c3
   clear c3
   obtain rfl := Option.some.inj H
   go_wp2
   go_ret
   exact ⟨by first | rfl | (simp; done) | (simp [*]; done), by repeat (first | exact Drawn0.refl _ | apply Drawn0.step)⟩
  rw [if_pos c3] at H
  have c3b0 : decide (x5_1 < (l0.length : Int)) = true := decide_eq_true c3
  clear c3
  by_cases c4 : 0 ≤ x5_1
  rotate_left
  ·rw [if_neg c4] at H
   exact absurd H (by simp)
  rw [if_pos c4] at H
  have c4b0 : decide (0 ≤ x5_1) = true := decide_eq_true c4
  clear c4
  by_cases c5 : (rd l0 x5_1) = a1
  ·rw [if_pos c5] at H
   have c5b0 : ((rd l0 x5_1) == a1) = true := beq_iff_eq.mpr c5
   have c5b1 : ((rd l0 x5_1) != a1) = false := bne_eq_false_iff_eq.mpr c5
   clear c5
   obtain rfl := Option.some.inj H
   have p335 : 0 ≤ (x5_1 : Int) := of_decide_eq_true (by assumption)
   have q335 : x5_1 < (l0.length : Int) := of_decide_eq_true (by assumption)
   obtain ⟨ad335, e335, hx335_0⟩ := Kd.at_int HR0.out x5_1 p335 q335
   cases e335
   replace p335 := eq_true p335
   replace q335 := eq_true q335
   go_wp2
   go_ret
   exact ⟨by first | rfl | (simp; done) | (simp [*]; done), by repeat (first | exact Drawn0.refl _ | apply Drawn0.step)⟩
  rw [if_neg c5] at H
  have c5b0 : ((rd l0 x5_1) == a1) = false := beq_eq_false_iff_ne.mpr c5
  have c5b1 : ((rd l0 x5_1) != a1) = true := bne_iff_ne.mpr c5
  have H' := Aside0.mk H
  clear H
  have p335 : 0 ≤ (x5_1 : Int) := of_decide_eq_true (by assumption)
  have q335 : x5_1 < (l0.length : Int) := of_decide_eq_true (by assumption)
  obtain ⟨ad335, e335, hx335_0⟩ := Kd.at_int HR0.out x5_1 p335 q335
  cases e335
  replace p335 := eq_true p335
  replace q335 := eq_true q335
  go_wp2
  go_roundg k1
  case measure => have := HK1.out; omega
  case rel => exact ⟨(wrap64 (x5_1 + 1)), (by first | rfl | (simp; done) | (simp [*]; done)), H', ⟨by have := HK1.out; omega⟩, by repeat (first | exact Drawn0.refl _ | apply Drawn0.step)⟩

end Go.Proofs.Ytbhmippoeimliaa.P

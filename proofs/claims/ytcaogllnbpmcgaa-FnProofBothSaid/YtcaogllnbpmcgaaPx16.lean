/- Written by our program myprint.py out of Lean's print of the translation: Go's function comes to just the answer of the Lean function told here. -/
import Derived.Test.YtcaogllnbpmcgaaPx0
import Derived.Test.YtcaogllnbpmcgaaPx2
import Derived.Test.YtcaogllnbpmcgaaPx7
import Derived.Test.YtcaogllnbpmcgaaPx10
import Derived.Test.YtcaogllnbpmcgaaPx11
import Derived.Test.YtcaogllnbpmcgaaPx12
import Derived.Test.YtcaogllnbpmcgaaPx15
namespace Go.Proofs.Ytcaogllnbpmcgaa.P
open Go.RowKit Go.Proofs.YtcaogllnbpmcgaaW.PrintWords Go.Proofs.YtcaogllnbpmcgaaW.PrintLast Go.Proofs.YtcaogllnbpmcgaaW.PrintMore
attribute [local go_sem] max2_int min2_int max_two min_two max_three min_three max_four min_four   -- for this text's walks alone
set_option linter.unusedVariables false
set_option linter.unusedSimpArgs false

/-! ### laws_FnProofBoth: function 7 -/
noncomputable def laws_FnProofBoth.j0 : Nat → Int → List (S38) → List (S47) → List (S47) → Bool → Option (Bool)
 | 0, _, _, _, _, _ => none
 | k + 1, x3, x4, x5, x6, x41 => if x41 = true then ((laws_alive.f).bind fun t306 => (some t306)) else ((impl_FindProof.f x3 x4 x5).bind fun bt307 => ((impl_FindProof.f x3 x4 x6).bind fun bt313 => ((laws_alive.f).bind fun t319 => (if t319 = true then (if bt307.2.2 = true then ((impl_ClashOk.f k x3 x4).bind fun t320 => (some (bt313.2.2 == t320))) else ((impl_ClashOk.f k x3 x4).bind fun t321 => (some (false == t321)))) else (some false)))))
noncomputable def laws_FnProofBoth.f (k : Nat) (l0 : List Int) : Option (Bool) := if (l0.length : Int) > 1048576 then (some true) else ((spec_DrawFindProof.f k l0).bind fun bt287 => ((some (([] : List (S47)) : List (S47))).bind fun y294 => (if y294.length + bt287.2.2.length < 8796093022208 then ((some (y294 ++ bt287.2.2 : List (S47))).bind fun y297 => (if y297.length < 8796093022208 then ((some (y297 ++ [(⟨2, 0⟩ : S47)] : List (S47))).bind fun y300 => ((spec_StoryOk.f k bt287.1 bt287.2.1).bind fun t303 => (if t303 = true then ((spec_TermOk.f k bt287.1 bt287.2.2).bind fun t304 => (if t304 = true then ((spec_TermOk.f k bt287.1 y300).bind fun t305 => (laws_FnProofBoth.j0 k bt287.1 bt287.2.1 bt287.2.2 y300 (!t305))) else (laws_FnProofBoth.j0 k bt287.1 bt287.2.1 bt287.2.2 y300 true))) else (laws_FnProofBoth.j0 k bt287.1 bt287.2.1 bt287.2.2 y300 true)))) else (none))) else (none))))
theorem laws_FnProofBoth.mono_l : ∀ k, (∀ y0 y1 y2 y3 y4, LeO (laws_FnProofBoth.j0 k y0 y1 y2 y3 y4) (laws_FnProofBoth.j0 (k + 1) y0 y1 y2 y3 y4))
 | 0 => fun _ _ _ _ _ r h => by simp [laws_FnProofBoth.j0] at h
 | k + 1 => by
  have ih0 := laws_FnProofBoth.mono_l k
  ·intro y0 y1 y2 y3 y4
   unfold laws_FnProofBoth.j0
   repeat' first
   | (with_reducible exact ih0 _ _ _ _ _)
   | (with_reducible exact impl_ClashOk.mono _ _ _)
   | (with_reducible exact spec_DrawFindProof.mono _ _)
   | (with_reducible exact spec_StoryOk.mono _ _ _)
   | (with_reducible exact spec_TermOk.mono _ _ _)
   | (with_reducible exact LeO.refl _)
   | (with_reducible exact LeO.none _)
   | (with_reducible refine LeO.ite ?_ ?_)
   | (with_reducible refine LeO.bind ?_ (fun _ => ?_))
   | exact ih0 _ _ _ _ _
   | exact impl_ClashOk.mono _ _ _
   | exact spec_DrawFindProof.mono _ _
   | exact spec_StoryOk.mono _ _ _
   | exact spec_TermOk.mono _ _ _
   | exact LeO.none _
   | refine LeO.ite ?_ ?_
   | refine LeO.bind ?_ (fun _ => ?_)
theorem laws_FnProofBoth.mono : ∀ a0 k, LeO (laws_FnProofBoth.f k a0) (laws_FnProofBoth.f (k + 1) a0) := by
 intro a0 k
 have ih0 := laws_FnProofBoth.mono_l k
 unfold laws_FnProofBoth.f
 repeat' first
   | (with_reducible exact ih0 _ _ _ _ _)
   | (with_reducible exact impl_ClashOk.mono _ _ _)
   | (with_reducible exact spec_DrawFindProof.mono _ _)
   | (with_reducible exact spec_StoryOk.mono _ _ _)
   | (with_reducible exact spec_TermOk.mono _ _ _)
   | (with_reducible exact LeO.refl _)
   | (with_reducible exact LeO.none _)
   | (with_reducible refine LeO.ite ?_ ?_)
   | (with_reducible refine LeO.bind ?_ (fun _ => ?_))
   | exact ih0 _ _ _ _ _
   | exact impl_ClashOk.mono _ _ _
   | exact spec_DrawFindProof.mono _ _
   | exact spec_StoryOk.mono _ _ _
   | exact spec_TermOk.mono _ _ _
   | exact LeO.none _
   | refine LeO.ite ?_ ?_
   | refine LeO.bind ?_ (fun _ => ?_)
set_option maxHeartbeats 8000000 in
set_option maxRecDepth 100000 in
theorem laws_FnProofBoth.calls (k : Nat) (A0 : Option Addr) (c0 : Nat) (l0 : List Int) (r : Bool) (w : World) (hr0 : Kd.C (Kd.int .u8) w A0 l0.length l0) (hc0 : l0.length ≤ c0) (h : laws_FnProofBoth.f k l0 = some r) :
  Calls Try.prog 7 #[.slice A0 l0.length c0] w fun e w' => e = .returned (.bool r) ∧ Below w.heap.size w w' := by
 have hu47 := Try.underlying47
 have hu51 := Try.underlying51
 have HR0 := Aside0.mk hr0
 have HC0 := Aside0.mk hc0
 clear hr0 hc0
 have HB := Aside0.mk (Below.refl w.heap.size w)
 have H : (if (l0.length : Int) > 1048576 then (some true) else ((spec_DrawFindProof.f k l0).bind fun bt287 => ((some (([] : List (S47)) : List (S47))).bind fun y294 => (if y294.length + bt287.2.2.length < 8796093022208 then ((some (y294 ++ bt287.2.2 : List (S47))).bind fun y297 => (if y297.length < 8796093022208 then ((some (y297 ++ [(⟨2, 0⟩ : S47)] : List (S47))).bind fun y300 => ((spec_StoryOk.f k bt287.1 bt287.2.1).bind fun t303 => (if t303 = true then ((spec_TermOk.f k bt287.1 bt287.2.2).bind fun t304 => (if t304 = true then ((spec_TermOk.f k bt287.1 y300).bind fun t305 => (laws_FnProofBoth.j0 k bt287.1 bt287.2.1 bt287.2.2 y300 (!t305))) else (laws_FnProofBoth.j0 k bt287.1 bt287.2.1 bt287.2.2 y300 true))) else (laws_FnProofBoth.j0 k bt287.1 bt287.2.1 bt287.2.2 y300 true)))) else (none))) else (none))))) = some r := h
 clear h
 by_cases c2 : (l0.length : Int) > 1048576
 ·rw [if_pos c2] at H
  have c2b0 : decide (1048576 < (l0.length : Int)) = true := decide_eq_true c2
  have c2b1 : decide (1048576 < l0.length) = true := decide_eq_true (by omega)
  clear c2
  obtain rfl := Option.some.inj H
  go_enter Try.func7, Try.ntmps7
  go_wp2
  go_ret
  exact ⟨by first | rfl | (simp [errW_none, errW_some] <;> rfl) | (simp [*, errW_none, errW_some] <;> rfl), below_at HB.out⟩
 rw [if_neg c2] at H
 have c2b0 : decide (1048576 < (l0.length : Int)) = false := decide_eq_false c2
 have c2b1 : decide (1048576 < l0.length) = false := decide_eq_false (by omega)
 clear c2
 replace H := Option.bind_eq_some_iff.mp H
 obtain ⟨⟨t287, t288, t289⟩, A30, H⟩ := H
 try dsimp only at H
 have A3 := Aside0.mk A30
 clear A30
 obtain ⟨y294, hy294⟩ : ∃ y_ : List (S47), y_ = (([] : List (S47))) := ⟨_, rfl⟩
 replace H : (if y294.length + t289.length < 8796093022208 then ((some (y294 ++ t289 : List (S47))).bind fun y297 => (if y297.length < 8796093022208 then ((some (y297 ++ [(⟨2, 0⟩ : S47)] : List (S47))).bind fun y300 => ((spec_StoryOk.f k t287 t288).bind fun t303 => (if t303 = true then ((spec_TermOk.f k t287 t289).bind fun t304 => (if t304 = true then ((spec_TermOk.f k t287 y300).bind fun t305 => (laws_FnProofBoth.j0 k t287 t288 t289 y300 (!t305))) else (laws_FnProofBoth.j0 k t287 t288 t289 y300 true))) else (laws_FnProofBoth.j0 k t287 t288 t289 y300 true)))) else (none))) else (none)) = some r := by first | (rw [hy294]; exact H) | exact H
 have Ny294 := Aside0.mk hy294
 clear hy294
 by_cases c4 : y294.length + t289.length < 8796093022208
 rotate_left
 ·rw [if_neg c4] at H
  exact absurd H (by simp)
 rw [if_pos c4] at H
 have LMc4 := Aside0.mk c4
 clear c4
 obtain ⟨y297, hy297⟩ : ∃ y_ : List (S47), y_ = (y294 ++ t289) := ⟨_, rfl⟩
 replace H : (if y297.length < 8796093022208 then ((some (y297 ++ [(⟨2, 0⟩ : S47)] : List (S47))).bind fun y300 => ((spec_StoryOk.f k t287 t288).bind fun t303 => (if t303 = true then ((spec_TermOk.f k t287 t289).bind fun t304 => (if t304 = true then ((spec_TermOk.f k t287 y300).bind fun t305 => (laws_FnProofBoth.j0 k t287 t288 t289 y300 (!t305))) else (laws_FnProofBoth.j0 k t287 t288 t289 y300 true))) else (laws_FnProofBoth.j0 k t287 t288 t289 y300 true)))) else (none)) = some r := by first | (rw [hy297]; exact H) | exact H
 have Ny297 := Aside0.mk hy297
 clear hy297
 by_cases c5 : y297.length < 8796093022208
 rotate_left
 ·rw [if_neg c5] at H
  exact absurd H (by simp)
 rw [if_pos c5] at H
 have LMc5 := Aside0.mk c5
 clear c5
 obtain ⟨y300, hy300⟩ : ∃ y_ : List (S47), y_ = (y297 ++ [(⟨2, 0⟩ : S47)]) := ⟨_, rfl⟩
 replace H : ((spec_StoryOk.f k t287 t288).bind fun t303 => (if t303 = true then ((spec_TermOk.f k t287 t289).bind fun t304 => (if t304 = true then ((spec_TermOk.f k t287 y300).bind fun t305 => (laws_FnProofBoth.j0 k t287 t288 t289 y300 (!t305))) else (laws_FnProofBoth.j0 k t287 t288 t289 y300 true))) else (laws_FnProofBoth.j0 k t287 t288 t289 y300 true))) = some r := by first | (rw [hy300]; exact H) | exact H
 have Ny300 := Aside0.mk hy300
 clear hy300
 have HC6 := Aside0.mk H
 clear H
 go_enter Try.func7, Try.ntmps7
 go_upto_region 5 with (first | ((with_reducible refine gate_callee (f := 26) rfl ?_); refine goesL_ (some 16) rfl rfl Try.func26 (by kernel_rfl) rfl #[.slice A0 l0.length c0] rfl (by (try simp only [List.map_toArray, List.map_cons, List.map_nil]); first | done | rfl | (simp only [List.length_drop, List.length_take]; rfl)) ?_; (with_reducible refine (spec_DrawFindProof.calls k _ _ l0 t287 t288 t289 _ ?side1 ?side2 A3.out).mono ?_); (case side1 => exact Kd.C_below HR0.out lt_); (case side2 => exact HC0.out); rintro e w7 ⟨v290, v292, rfl, ho0, ho1, hb⟩; refine ⟨_, rfl, ?_⟩; have HO291 := Aside0.mk (Kd.S_lower ho0 (below_size (below_at HB.out))); have HO293 := Aside0.mk (Kd.R_lower ho1 (below_size (below_at HB.out))); replace HB := Aside0.mk (below_step (below_at HB.out) hb); (try clear hb); (try clear hb2); (try clear hk); (try clear hi); (try clear ho0); (try clear ho1)) | ((with_reducible refine gate_dst (N := 20) rfl ?_); refine Kd.R_lit k47 _ 47 ?hg (N := 20) ?hd (xs := ([] : List (S47))) (inner := []) (ok := fun _ => True) (okp := fun _ => True) ?hr ?hp (fun _ hk => hk) trivial (Below.refl _ _) (Nat.le_refl _) (by simp) ?_; (case hd => rfl); (case hg => rfl); (case hr => first | (go_simp; done) | (go_simp; rfl)); (case hp => exact (Reps.none _ _)); intro v295 w8 ho9 hb hg_ hnew_; clear hg_ hnew_; (first | rw [← Ny294.out] at ho9 | (simp only [Int.reduceToNat] at ho9; rw [← Ny294.out] at ho9)); replace HO291 := Aside0.mk (Kd.S_elder' (Kd.S_below HO291.out lt_) (Kd.R_base ho9) hb); have HO296 := Aside0.mk (Kd.R_lower (Kd.R_new' ho9 (Kd.R_lt (Kd.R_below HO293.out lt_))) (below_size (below_at HB.out))); replace HO293 := Aside0.mk (Kd.R_elder' (Kd.R_below HO293.out lt_) (Kd.R_base ho9) hb); replace HB := Aside0.mk (below_step (below_at HB.out) hb); clear hb ho9; obtain ⟨Ao11, co11, eo11⟩ := Kd.R_slice HO293.out; subst eo11) | ((with_reducible refine gate_builtin (b := .append) (xs := #[.tmp 20, .tmp 21]) rfl ?_); at_builtin; refine Kd.R_append_rows k47 (w0 := w) w.heap.size rfl (.tmp 20) (.tmp 21) 36 47 (.agg #[(.int .i64 0), (.int .i64 0)]) 16 rfl Try.underlying36 info47 rfl (by decide) (by omega) v295 y294 t289 _ _ _ (fun k_ => some k_ ≠ (.slice Ao11 t289.length co11 : Value).ownBlock) (fun _ => False) rfl rfl ?aO ?aR (fun _ _ h => h) (fun _ h => h.elim) ?aF ?aB ?aS ?aL ?_; (case aR => exact Kd.C_below (Kd.R_reads' HO293.out).2.2 lt_); (case aB => exact (below_at HB.out)); (case aF => exact (fun k_ hk => Kd.fresh' (Kd.R_lt (Kd.R_below HO293.out lt_)) k_ hk)); (case aO => exact (Kd.R_below (Kd.R_mono HO296.out (fun _ hk => hk.2)) lt_)); (case aS => exact (below_size (below_at HB.out))); (case aL => have := LMc4.out; omega); intro v298 w10 ho hb hg hat; rw [← Ny297.out] at ho; replace HO291 := Aside0.mk (Kd.S_after (ok := (fun k_ => some k_ ≠ (.slice Ao11 t289.length co11 : Value).ownBlock)) (Kd.S_below HO291.out lt_) hg hat); replace HO293 := Aside0.mk (Kd.R_after (ok := (fun _ => True)) (Kd.R_below HO293.out lt_) hg hat); replace HB := Aside0.mk (hb); have HO299 := Aside0.mk (ho); (try clear HO296); clear ho hb hg hat) | ((with_reducible refine gate_builtin (b := .append) (xs := #[.tmp 22, .tmp 24]) rfl ?_); at_builtin; refine Kd.R_append k47 (w0 := w) w.heap.size rfl (.tmp 22) (.tmp 24) 36 47 (.agg #[(.int .i64 0), (.int .i64 0)]) 16 rfl Try.underlying36 info47 rfl (by decide) (by omega) v298 y297 (⟨2, 0⟩ : S47) [.int .i64 2, .int .i64 0] (fun k_ => some k_ ≠ (.slice Ao11 t289.length co11 : Value).ownBlock) (fun _ => False) rfl rfl ?aP (fun _ hk => hk.elim) ?aF ?aO ?aB ?aS ?aL ?_; (case aP => exact k47_mkM _ _ _ (⟨2, 0⟩ : S47)); (case aB => exact (below_at HB.out)); (case aF => exact (fun k_ hk => Kd.fresh' (Kd.R_lt (Kd.R_below HO293.out lt_)) k_ hk)); (case aO => exact (Kd.R_below HO299.out lt_)); (case aS => exact (below_size (below_at HB.out))); (case aL => have := LMc5.out; omega); intro v301 w12 ho hb hg hat; rw [← Ny300.out] at ho; replace HO291 := Aside0.mk (Kd.S_after (ok := (fun k_ => some k_ ≠ (.slice Ao11 t289.length co11 : Value).ownBlock)) (Kd.S_below HO291.out lt_) hg hat); replace HO293 := Aside0.mk (Kd.R_after (ok := (fun _ => True)) (Kd.R_below HO293.out lt_) hg hat); replace HB := Aside0.mk (hb); have HO302 := Aside0.mk (ho); (try clear HO299); clear ho hb hg hat))
 (try simp only [Act.put, z0_, z1_, z2_])
 go_cut [41] (fun v41 wc => ∃ (kq : Nat) (x41_5 : Bool), v41 = .bool x41_5 ∧ Aside0 (laws_FnProofBoth.j0 kq t287 t288 t289 y300 x41_5 = some r) ∧ Aside0 (kq ≤ k) ∧ Aside0 (Kd.S k38 38 wc w.heap.size (fun k_ => some k_ ≠ ((.slice Ao11 t289.length co11) : Value).ownBlock ∧ some k_ ≠ (v301 : Value).ownBlock) v290 t288) ∧ Aside0 (Kd.R k47 47 wc w.heap.size (fun k_ => some k_ ≠ (v301 : Value).ownBlock) (.slice Ao11 t289.length co11) t289) ∧ Aside0 (Kd.R k47 47 wc w.heap.size (fun k_ => some k_ ≠ ((.slice Ao11 t289.length co11) : Value).ownBlock) v301 y300) ∧ Aside0 (Below w.heap.size w wc))
 case first =>
  have H := HC6.out
  clear HC6
  replace H := Option.bind_eq_some_iff.mp H
  obtain ⟨t303, A130, H⟩ := H
  try dsimp only at H
  have A13 := Aside0.mk A130
  clear A130
  by_cases c14 : t303 = true
  rotate_left
  ·replace c14 := Bool.eq_false_iff.mpr c14
   subst c14
   rw [if_neg (show ¬ (false = true) by decide)] at H
   have H' := Aside0.mk H
   clear H
   obtain ⟨Ao23, co23, eo23⟩ := Kd.S_slice HO291.out
   subst eo23
   go_wp2_with (first | ((with_reducible refine gate_callee (f := 27) rfl ?_); refine goesL_ (some 28) rfl rfl Try.func27 (by kernel_rfl) rfl #[.int .i64 t287, .slice Ao23 t288.length co23] rfl (by (try simp only [List.map_toArray, List.map_cons, List.map_nil]); first | done | rfl | (simp only [List.length_drop, List.length_take]; rfl)) ?_; (with_reducible refine (spec_StoryOk.calls k t287 _ _ t288 false _ ?side1 ?side2 A13.out).mono ?_); (case side1 => exact Kd.C_below (Kd.S_reads' HO291.out).2.2 lt_); (case side2 => exact (Kd.S_reads' HO291.out).2.1); rintro e w24 ⟨rfl, hb⟩; refine ⟨_, rfl, ?_⟩; replace HO291 := Aside0.mk (Kd.S_below (Kd.S_below HO291.out lt_) hb); replace HO293 := Aside0.mk (Kd.R_below (Kd.R_below HO293.out lt_) hb); replace HO302 := Aside0.mk (Kd.R_below (Kd.R_below HO302.out lt_) hb); replace HB := Aside0.mk (below_step (below_at HB.out) hb); (try clear hb); (try clear hb2); (try clear hk); (try clear hi)))
   go_meet
   case rel => exact ⟨_, (true), (by first | rfl | (simp; done) | (simp [*]; done)), H', ⟨by first | omega | exact Nat.le_refl _⟩, ⟨Kd.S_below HO291.out lt_⟩, ⟨Kd.R_below (Kd.R_mono HO293.out (fun _ hk => hk.2)) lt_⟩, ⟨Kd.R_below HO302.out lt_⟩, ⟨below_at HB.out⟩⟩
  subst c14
  rw [if_pos rfl] at H
  replace H := Option.bind_eq_some_iff.mp H
  obtain ⟨t304, A150, H⟩ := H
  try dsimp only at H
  have A15 := Aside0.mk A150
  clear A150
  by_cases c16 : t304 = true
  rotate_left
  ·replace c16 := Bool.eq_false_iff.mpr c16
   subst c16
   rw [if_neg (show ¬ (false = true) by decide)] at H
   have H' := Aside0.mk H
   clear H
   obtain ⟨Ao21, co21, eo21⟩ := Kd.S_slice HO291.out
   subst eo21
   go_wp2_with (first | ((with_reducible refine gate_callee (f := 27) rfl ?_); refine goesL_ (some 28) rfl rfl Try.func27 (by kernel_rfl) rfl #[.int .i64 t287, .slice Ao21 t288.length co21] rfl (by (try simp only [List.map_toArray, List.map_cons, List.map_nil]); first | done | rfl | (simp only [List.length_drop, List.length_take]; rfl)) ?_; (with_reducible refine (spec_StoryOk.calls k t287 _ _ t288 true _ ?side1 ?side2 A13.out).mono ?_); (case side1 => exact Kd.C_below (Kd.S_reads' HO291.out).2.2 lt_); (case side2 => exact (Kd.S_reads' HO291.out).2.1); rintro e w22 ⟨rfl, hb⟩; refine ⟨_, rfl, ?_⟩; replace HO291 := Aside0.mk (Kd.S_below (Kd.S_below HO291.out lt_) hb); replace HO293 := Aside0.mk (Kd.R_below (Kd.R_below HO293.out lt_) hb); replace HO302 := Aside0.mk (Kd.R_below (Kd.R_below HO302.out lt_) hb); replace HB := Aside0.mk (below_step (below_at HB.out) hb); (try clear hb); (try clear hb2); (try clear hk); (try clear hi)) | (go_at_call 28; (with_reducible refine (spec_TermOk.calls k t287 _ _ t289 false _ ?side1 ?side2 A15.out).mono ?_); (case side1 => exact Kd.C_below (Kd.R_reads' HO293.out).2.2 lt_); (case side2 => exact (Kd.R_reads' HO293.out).2.1); rintro e w' ⟨rfl, ⟨nd, rfl⟩⟩))
   go_meet
   case rel => exact ⟨_, (true), (by first | rfl | (simp; done) | (simp [*]; done)), H', ⟨by first | omega | exact Nat.le_refl _⟩, ⟨Kd.S_below HO291.out lt_⟩, ⟨Kd.R_below (Kd.R_mono HO293.out (fun _ hk => hk.2)) lt_⟩, ⟨Kd.R_below HO302.out lt_⟩, ⟨below_at HB.out⟩⟩
  subst c16
  rw [if_pos rfl] at H
  replace H := Option.bind_eq_some_iff.mp H
  obtain ⟨t305, A170, H⟩ := H
  try dsimp only at H
  have A17 := Aside0.mk A170
  clear A170
  have H' := Aside0.mk H
  clear H
  obtain ⟨Ao18, co18, eo18⟩ := Kd.S_slice HO291.out
  subst eo18
  go_wp2_with (first | ((with_reducible refine gate_callee (f := 27) rfl ?_); refine goesL_ (some 28) rfl rfl Try.func27 (by kernel_rfl) rfl #[.int .i64 t287, .slice Ao18 t288.length co18] rfl (by (try simp only [List.map_toArray, List.map_cons, List.map_nil]); first | done | rfl | (simp only [List.length_drop, List.length_take]; rfl)) ?_; (with_reducible refine (spec_StoryOk.calls k t287 _ _ t288 true _ ?side1 ?side2 A13.out).mono ?_); (case side1 => exact Kd.C_below (Kd.S_reads' HO291.out).2.2 lt_); (case side2 => exact (Kd.S_reads' HO291.out).2.1); rintro e w19 ⟨rfl, hb⟩; refine ⟨_, rfl, ?_⟩; replace HO291 := Aside0.mk (Kd.S_below (Kd.S_below HO291.out lt_) hb); replace HO293 := Aside0.mk (Kd.R_below (Kd.R_below HO293.out lt_) hb); replace HO302 := Aside0.mk (Kd.R_below (Kd.R_below HO302.out lt_) hb); replace HB := Aside0.mk (below_step (below_at HB.out) hb); (try clear hb); (try clear hb2); (try clear hk); (try clear hi)) | (go_at_call 28; (with_reducible refine (spec_TermOk.calls k t287 _ _ t289 true _ ?side1 ?side2 A15.out).mono ?_); (case side1 => exact Kd.C_below (Kd.R_reads' HO293.out).2.2 lt_); (case side2 => exact (Kd.R_reads' HO293.out).2.1); rintro e w' ⟨rfl, ⟨nd, rfl⟩⟩; obtain ⟨Ao20, co20, eo20⟩ := Kd.R_slice HO302.out; subst eo20) | (go_at_call 28; (with_reducible refine (spec_TermOk.calls k t287 _ _ y300 t305 _ ?side1 ?side2 A17.out).mono ?_); (case side1 => exact Kd.C_below (Kd.R_reads' HO302.out).2.2 lt_); (case side2 => exact (Kd.R_reads' HO302.out).2.1); rintro e w' ⟨rfl, ⟨nd, rfl⟩⟩))
  go_meet
  case rel => exact ⟨_, (!t305), (by first | rfl | (simp; done) | (simp [*]; done)), H', ⟨by first | omega | exact Nat.le_refl _⟩, ⟨Kd.S_below HO291.out lt_⟩, ⟨Kd.R_below (Kd.R_mono HO293.out (fun _ hk => hk.2)) lt_⟩, ⟨Kd.R_below HO302.out lt_⟩, ⟨below_at HB.out⟩⟩
 clear HC6
 try clear c1
 try clear c2
 try clear c2b0
 try clear c2b1
 try clear p2
 try clear c4
 try clear c5
 try clear c7
 try clear c14
 try clear c16
 obtain ⟨kq, x41_5, rfl, HA, HJ5, HO_4, HO_5, HO_6, HB⟩ := hcut
 cases kq with
 | zero => exact absurd HA.out (by simp [laws_FnProofBoth.j0])
 | succ kj5 =>
  have H := HA.out
  clear HA
  simp only [laws_FnProofBoth.j0] at H
  by_cases c25 : x41_5 = true
  ·subst c25
   rw [if_pos rfl] at H
   replace H := Option.bind_eq_some_iff.mp H
   obtain ⟨t306, A260, H⟩ := H
   replace H : (some t306) = some r := H
   have A26 := Aside0.mk A260
   clear A260
   obtain rfl := Option.some.inj H
   go_wp2_with (first | ((with_reducible refine gate_callee (f := 21) rfl ?_); refine goesL_ (some 42) rfl rfl Try.func21 (by kernel_rfl) rfl #[] rfl (by (try simp only [List.map_toArray, List.map_cons, List.map_nil]); first | done | rfl | (simp only [List.length_drop, List.length_take]; rfl)) ?_; (with_reducible refine (laws_alive.calls  t306 _ A26.out).mono ?_); rintro e w' ⟨rfl, ⟨nd, rfl⟩⟩; refine ⟨_, rfl, ?_⟩))
   go_ret
   exact ⟨by first | rfl | (simp [errW_none, errW_some] <;> rfl) | (simp [*, errW_none, errW_some] <;> rfl), below_at HB.out⟩
  replace c25 := Bool.eq_false_iff.mpr c25
  subst c25
  rw [if_neg (show ¬ (false = true) by decide)] at H
  replace H := Option.bind_eq_some_iff.mp H
  obtain ⟨⟨t307, t308, t311⟩, A270, H⟩ := H
  try dsimp only at H
  have A27 := Aside0.mk A270
  clear A270
  replace H := Option.bind_eq_some_iff.mp H
  obtain ⟨⟨t313, t314, t317⟩, A280, H⟩ := H
  try dsimp only at H
  have A28 := Aside0.mk A280
  clear A280
  replace H := Option.bind_eq_some_iff.mp H
  obtain ⟨t319, A290, H⟩ := H
  try dsimp only at H
  have A29 := Aside0.mk A290
  clear A290
  by_cases c30 : t319 = true
  rotate_left
  ·replace c30 := Bool.eq_false_iff.mpr c30
   subst c30
   rw [if_neg (show ¬ (false = true) by decide)] at H
   obtain rfl := Option.some.inj H
   obtain ⟨Ao58, co58, eo58⟩ := Kd.S_slice HO_4.out
   subst eo58
   go_wp2_with (first | ((with_reducible refine gate_callee (f := 29) rfl ?_); refine goesL_ (some 47) rfl rfl Try.func29 (by kernel_rfl) rfl #[.int .i64 t287, .slice Ao58 t288.length co58, .slice Ao11 t289.length co11] rfl (by (try simp only [List.map_toArray, List.map_cons, List.map_nil]); first | done | rfl | (simp only [List.length_drop, List.length_take]; rfl)) ?_; (with_reducible refine (impl_FindProof.calls t287 _ _ t288 _ _ t289 t307 t308 t311 _ ?side1 ?side2 ?side3 ?side4 A27.out).mono ?_); (case side1 => exact Kd.C_below (Kd.S_reads' HO_4.out).2.2 lt_); (case side2 => exact (Kd.S_reads' HO_4.out).2.1); (case side3 => exact Kd.C_below (Kd.R_reads' HO_5.out).2.2 lt_); (case side4 => exact (Kd.R_reads' HO_5.out).2.1); rintro e w59 ⟨v309, rfl, ho0, hb⟩; refine ⟨_, rfl, ?_⟩; replace HO_4 := Aside0.mk (Kd.S_below (Kd.S_below HO_4.out lt_) hb); replace HO_6 := Aside0.mk (Kd.R_below (Kd.R_below HO_6.out lt_) hb); have HO310 := Aside0.mk (Kd.R_lower ho0 (below_size (below_at HB.out))); replace HB := Aside0.mk (below_step (below_at HB.out) hb); (try clear HO_5); (try clear hb); (try clear hb2); (try clear hk); (try clear hi); (try clear ho0)) | ((with_reducible refine gate_dst (N := 7) rfl ?_); refine box_event ?hg (N := 7) ?hd (cs := #[.int .i64 0, .slice none 0 0]) (t := 51) ?hr ?_; (case hd => rfl); (case hg => rfl); (case hr => first | (go_simp; done) | (go_simp; rfl)); intro gb312 hg w60 hbox hb; replace HO_4 := Aside0.mk (Kd.S_below (Kd.S_below HO_4.out lt_) hb); replace HO_6 := Aside0.mk (Kd.R_below (Kd.R_below HO_6.out lt_) hb); replace HO310 := Aside0.mk (Kd.R_below (Kd.R_below HO310.out lt_) hb); have BK312 := Aside0.mk (hbox); have GW312 := Aside0.mk ((by rw [hg]; exact (below_size (below_at HB.out)) : w.heap.size ≤ gb312)); have GE312 := Aside0.mk ((by rw [hg]; exact (below_size (below_at HB.out)) : w.heap.size ≤ gb312)); replace HB := Aside0.mk (below_step (below_at HB.out) hb); (try clear HO_5); clear hb hbox hg; have hcz61_0 := blk_cell BK312.out 0; have hcz61_1 := blk_cell BK312.out 1; have hfz61_0 := blk_frozen BK312.out 0; have hfz61_1 := blk_frozen BK312.out 1; obtain ⟨Ao62, co62, eo62⟩ := Kd.R_slice HO310.out; subst eo62; obtain ⟨Ao63, co63, eo63⟩ := Kd.R_slice HO_6.out; subst eo63) | ((with_reducible refine gate_callee (f := 29) rfl ?_); refine goesL_ (some 54) rfl rfl Try.func29 (by kernel_rfl) rfl #[.int .i64 t287, .slice Ao58 t288.length co58, .slice Ao63 y300.length co63] rfl (by (try simp only [List.map_toArray, List.map_cons, List.map_nil]); first | done | rfl | (simp only [List.length_drop, List.length_take]; rfl)) ?_; (with_reducible refine (impl_FindProof.calls t287 _ _ t288 _ _ y300 t313 t314 t317 _ ?side1 ?side2 ?side3 ?side4 A28.out).mono ?_); (case side1 => refine (Kd.S_reads' (e := 38) (base := w.heap.size) (ok := fun k_ => (some k_ ≠ (.slice Ao11 t289.length co11 : Value).ownBlock ∧ some k_ ≠ (.slice Ao63 y300.length co63 : Value).ownBlock)) (n := t288.length) (c := co58) ?_).2.2; exact (by (with_reducible repeat (first | apply Kd.S_alloc | apply Kd.S_drewN | apply Kd.S_drew)); exact (Kd.S_mono (Kd.S_far (p := ⟨gb312, 1, none⟩) (Kd.S_far (p := ⟨gb312, 0, none⟩) (Kd.S_types HO_4.out BK312.out (by decide)) (fun _ hk => hk.2) (.int .i64 t307)) (fun _ hk => hk.2) (.slice Ao62 t308.length co62)) (fun _ h_ => h_.1)))); (case side2 => exact (Kd.S_reads' HO_4.out).2.1); (case side3 => refine (Kd.R_reads' (e := 47) (base := w.heap.size) (ok := fun k_ => some k_ ≠ (.slice Ao11 t289.length co11 : Value).ownBlock) (n := y300.length) (c := co63) ?_).2.2; exact (by (with_reducible repeat (first | apply Kd.R_alloc | apply Kd.R_drewN | apply Kd.R_drew)); exact (Kd.R_mono (Kd.R_far (p := ⟨gb312, 1, none⟩) (Kd.R_far (p := ⟨gb312, 0, none⟩) (Kd.R_types HO_6.out BK312.out (by decide)) (fun _ hk => hk.2) (.int .i64 t307)) (fun _ hk => hk.2) (.slice Ao62 t308.length co62)) (fun _ h_ => h_.1)))); (case side4 => exact (Kd.R_reads' HO_6.out).2.1); rintro e w64 ⟨v315, rfl, ho0, hb⟩; refine ⟨_, rfl, ?_⟩; have HO316 := Aside0.mk (Kd.R_lower (Kd.R_new' ho0 (Kd.R_lt (by (with_reducible repeat (first | apply Kd.R_alloc | apply Kd.R_drewN | apply Kd.R_drew)); exact (Kd.R_mono (Kd.R_far (p := ⟨gb312, 1, none⟩) (Kd.R_far (p := ⟨gb312, 0, none⟩) (Kd.R_types HO310.out BK312.out (by decide)) (fun _ hk => hk.2) (.int .i64 t307)) (fun _ hk => hk.2) (.slice Ao62 t308.length co62)) (fun _ h_ => h_.1))))) (below_size (at_ HB.out))); replace BK312 := Aside0.mk (blk_below (g := gb312) (o := .cells #[.int .i64 t307, .slice Ao62 t308.length co62] 51 (0, 0)) (by (with_reducible repeat (first | refine blk_drewN ?_ _ | refine blk_drew ?_ | refine blk_alloc ?_ _)); refine blk_put (cs := #[.int .i64 t307, .slice none 0 0]) ?_ 1 _ rfl; (with_reducible repeat (first | refine blk_drewN ?_ _ | refine blk_drew ?_ | refine blk_alloc ?_ _)); refine blk_put (cs := #[.int .i64 0, .slice none 0 0]) ?_ 0 _ rfl; (with_reducible repeat (first | refine blk_drewN ?_ _ | refine blk_drew ?_ | refine blk_alloc ?_ _)); exact BK312.out) hb); replace HB := Aside0.mk (below_step (at_ HB.out) hb); (try clear HO_4 HO_5 HO_6 HO310); (try clear hb); (try clear hb2); (try clear hk); (try clear hi); (try clear ho0)) | ((with_reducible refine gate_dst (N := 9) rfl ?_); refine box_event ?hg (N := 9) ?hd (cs := #[.int .i64 0, .slice none 0 0]) (t := 51) ?hr ?_; (case hd => rfl); (case hg => rfl); (case hr => first | (go_simp; done) | (go_simp; rfl)); intro gb318 hg w65 hbox hb; replace HO316 := Aside0.mk (Kd.R_below (Kd.R_below HO316.out lt_) hb); have BK318 := Aside0.mk (hbox); have GW318 := Aside0.mk ((by rw [hg]; exact (below_size (at_ HB.out)) : w.heap.size ≤ gb318)); have GE318 := Aside0.mk ((by rw [hg]; exact (below_size (at_ HB.out)) : w.heap.size ≤ gb318)); replace HB := Aside0.mk (below_step (at_ HB.out) hb); have NB312_318 := Aside0.mk ((by rw [hg]; exact Nat.ne_of_lt (blk_lt (g := gb312) (o := .cells #[.int .i64 t307, .slice Ao62 t308.length co62] 51 (0, 0)) (by (with_reducible repeat (first | refine blk_drewN ?_ _ | refine blk_drew ?_ | refine blk_alloc ?_ _)); exact BK312.out)) : gb312 ≠ gb318)); have NB318_312 := Aside0.mk ((by rw [hg]; exact Nat.ne_of_gt (blk_lt (g := gb312) (o := .cells #[.int .i64 t307, .slice Ao62 t308.length co62] 51 (0, 0)) (by (with_reducible repeat (first | refine blk_drewN ?_ _ | refine blk_drew ?_ | refine blk_alloc ?_ _)); exact BK312.out)) : gb318 ≠ gb312)); (try clear HO_4 HO_5 HO_6 HO310 BK312); clear hb hbox hg; have hnb66 := NB318_312.out; have hnc66 := NB312_318.out; have hcz67_0 := blk_cell BK318.out 0; have hcz67_1 := blk_cell BK318.out 1; have hfz67_0 := blk_frozen BK318.out 0; have hfz67_1 := blk_frozen BK318.out 1; obtain ⟨Ao68, co68, eo68⟩ := Kd.R_slice HO316.out; subst eo68) | ((with_reducible refine gate_callee (f := 21) rfl ?_); refine goesL_ (some 57) rfl rfl Try.func21 (by kernel_rfl) rfl #[] rfl (by (try simp only [List.map_toArray, List.map_cons, List.map_nil]); first | done | rfl | (simp only [List.length_drop, List.length_take]; rfl)) ?_; (with_reducible refine (laws_alive.calls  false _ A29.out).mono ?_); rintro e w' ⟨rfl, ⟨nd, rfl⟩⟩; refine ⟨_, rfl, ?_⟩))
   go_ret
   exact ⟨by first | rfl | (simp [errW_none, errW_some] <;> rfl) | (simp [*, errW_none, errW_some] <;> rfl), at_ HB.out⟩
  subst c30
  rw [if_pos rfl] at H
  by_cases c31 : t311 = true
  ·subst c31
   rw [if_pos rfl] at H
   replace H := Option.bind_eq_some_iff.mp H
   obtain ⟨t320, A320, H⟩ := H
   replace H : (some (t317 == t320)) = some r := H
   have A32 := Aside0.mk A320
   clear A320
   obtain rfl := Option.some.inj H
   obtain ⟨Ao33, co33, eo33⟩ := Kd.S_slice HO_4.out
   subst eo33
   go_wp2_with (first | ((with_reducible refine gate_callee (f := 29) rfl ?_); refine goesL_ (some 47) rfl rfl Try.func29 (by kernel_rfl) rfl #[.int .i64 t287, .slice Ao33 t288.length co33, .slice Ao11 t289.length co11] rfl (by (try simp only [List.map_toArray, List.map_cons, List.map_nil]); first | done | rfl | (simp only [List.length_drop, List.length_take]; rfl)) ?_; (with_reducible refine (impl_FindProof.calls t287 _ _ t288 _ _ t289 t307 t308 true _ ?side1 ?side2 ?side3 ?side4 A27.out).mono ?_); (case side1 => exact Kd.C_below (Kd.S_reads' HO_4.out).2.2 lt_); (case side2 => exact (Kd.S_reads' HO_4.out).2.1); (case side3 => exact Kd.C_below (Kd.R_reads' HO_5.out).2.2 lt_); (case side4 => exact (Kd.R_reads' HO_5.out).2.1); rintro e w34 ⟨v309, rfl, ho0, hb⟩; refine ⟨_, rfl, ?_⟩; replace HO_4 := Aside0.mk (Kd.S_below (Kd.S_below HO_4.out lt_) hb); replace HO_6 := Aside0.mk (Kd.R_below (Kd.R_below HO_6.out lt_) hb); have HO310 := Aside0.mk (Kd.R_lower ho0 (below_size (below_at HB.out))); replace HB := Aside0.mk (below_step (below_at HB.out) hb); (try clear HO_5); (try clear hb); (try clear hb2); (try clear hk); (try clear hi); (try clear ho0)) | ((with_reducible refine gate_dst (N := 7) rfl ?_); refine box_event ?hg (N := 7) ?hd (cs := #[.int .i64 0, .slice none 0 0]) (t := 51) ?hr ?_; (case hd => rfl); (case hg => rfl); (case hr => first | (go_simp; done) | (go_simp; rfl)); intro gb312 hg w35 hbox hb; replace HO_4 := Aside0.mk (Kd.S_below (Kd.S_below HO_4.out lt_) hb); replace HO_6 := Aside0.mk (Kd.R_below (Kd.R_below HO_6.out lt_) hb); replace HO310 := Aside0.mk (Kd.R_below (Kd.R_below HO310.out lt_) hb); have BK312 := Aside0.mk (hbox); have GW312 := Aside0.mk ((by rw [hg]; exact (below_size (below_at HB.out)) : w.heap.size ≤ gb312)); have GE312 := Aside0.mk ((by rw [hg]; exact (below_size (below_at HB.out)) : w.heap.size ≤ gb312)); replace HB := Aside0.mk (below_step (below_at HB.out) hb); (try clear HO_5); clear hb hbox hg; have hcz36_0 := blk_cell BK312.out 0; have hcz36_1 := blk_cell BK312.out 1; have hfz36_0 := blk_frozen BK312.out 0; have hfz36_1 := blk_frozen BK312.out 1; obtain ⟨Ao37, co37, eo37⟩ := Kd.R_slice HO310.out; subst eo37; obtain ⟨Ao38, co38, eo38⟩ := Kd.R_slice HO_6.out; subst eo38) | ((with_reducible refine gate_callee (f := 29) rfl ?_); refine goesL_ (some 54) rfl rfl Try.func29 (by kernel_rfl) rfl #[.int .i64 t287, .slice Ao33 t288.length co33, .slice Ao38 y300.length co38] rfl (by (try simp only [List.map_toArray, List.map_cons, List.map_nil]); first | done | rfl | (simp only [List.length_drop, List.length_take]; rfl)) ?_; (with_reducible refine (impl_FindProof.calls t287 _ _ t288 _ _ y300 t313 t314 t317 _ ?side1 ?side2 ?side3 ?side4 A28.out).mono ?_); (case side1 => refine (Kd.S_reads' (e := 38) (base := w.heap.size) (ok := fun k_ => (some k_ ≠ (.slice Ao11 t289.length co11 : Value).ownBlock ∧ some k_ ≠ (.slice Ao38 y300.length co38 : Value).ownBlock)) (n := t288.length) (c := co33) ?_).2.2; exact (by (with_reducible repeat (first | apply Kd.S_alloc | apply Kd.S_drewN | apply Kd.S_drew)); exact (Kd.S_mono (Kd.S_far (p := ⟨gb312, 1, none⟩) (Kd.S_far (p := ⟨gb312, 0, none⟩) (Kd.S_types HO_4.out BK312.out (by decide)) (fun _ hk => hk.2) (.int .i64 t307)) (fun _ hk => hk.2) (.slice Ao37 t308.length co37)) (fun _ h_ => h_.1)))); (case side2 => exact (Kd.S_reads' HO_4.out).2.1); (case side3 => refine (Kd.R_reads' (e := 47) (base := w.heap.size) (ok := fun k_ => some k_ ≠ (.slice Ao11 t289.length co11 : Value).ownBlock) (n := y300.length) (c := co38) ?_).2.2; exact (by (with_reducible repeat (first | apply Kd.R_alloc | apply Kd.R_drewN | apply Kd.R_drew)); exact (Kd.R_mono (Kd.R_far (p := ⟨gb312, 1, none⟩) (Kd.R_far (p := ⟨gb312, 0, none⟩) (Kd.R_types HO_6.out BK312.out (by decide)) (fun _ hk => hk.2) (.int .i64 t307)) (fun _ hk => hk.2) (.slice Ao37 t308.length co37)) (fun _ h_ => h_.1)))); (case side4 => exact (Kd.R_reads' HO_6.out).2.1); rintro e w39 ⟨v315, rfl, ho0, hb⟩; refine ⟨_, rfl, ?_⟩; replace HO_4 := Aside0.mk (Kd.S_below (by (with_reducible repeat (first | apply Kd.S_alloc | apply Kd.S_drewN | apply Kd.S_drew)); exact (Kd.S_mono (Kd.S_far (p := ⟨gb312, 1, none⟩) (Kd.S_far (p := ⟨gb312, 0, none⟩) (Kd.S_types HO_4.out BK312.out (by decide)) (fun _ hk => hk.2) (.int .i64 t307)) (fun _ hk => hk.2) (.slice Ao37 t308.length co37)) (fun _ h_ => h_.1))) hb); have HO316 := Aside0.mk (Kd.R_lower (Kd.R_new' ho0 (Kd.R_lt (by (with_reducible repeat (first | apply Kd.R_alloc | apply Kd.R_drewN | apply Kd.R_drew)); exact (Kd.R_mono (Kd.R_far (p := ⟨gb312, 1, none⟩) (Kd.R_far (p := ⟨gb312, 0, none⟩) (Kd.R_types HO310.out BK312.out (by decide)) (fun _ hk => hk.2) (.int .i64 t307)) (fun _ hk => hk.2) (.slice Ao37 t308.length co37)) (fun _ h_ => h_.1))))) (below_size (at_ HB.out))); replace BK312 := Aside0.mk (blk_below (g := gb312) (o := .cells #[.int .i64 t307, .slice Ao37 t308.length co37] 51 (0, 0)) (by (with_reducible repeat (first | refine blk_drewN ?_ _ | refine blk_drew ?_ | refine blk_alloc ?_ _)); refine blk_put (cs := #[.int .i64 t307, .slice none 0 0]) ?_ 1 _ rfl; (with_reducible repeat (first | refine blk_drewN ?_ _ | refine blk_drew ?_ | refine blk_alloc ?_ _)); refine blk_put (cs := #[.int .i64 0, .slice none 0 0]) ?_ 0 _ rfl; (with_reducible repeat (first | refine blk_drewN ?_ _ | refine blk_drew ?_ | refine blk_alloc ?_ _)); exact BK312.out) hb); replace HB := Aside0.mk (below_step (at_ HB.out) hb); (try clear HO_5 HO_6 HO310); (try clear hb); (try clear hb2); (try clear hk); (try clear hi); (try clear ho0)) | ((with_reducible refine gate_dst (N := 9) rfl ?_); refine box_event ?hg (N := 9) ?hd (cs := #[.int .i64 0, .slice none 0 0]) (t := 51) ?hr ?_; (case hd => rfl); (case hg => rfl); (case hr => first | (go_simp; done) | (go_simp; rfl)); intro gb318 hg w40 hbox hb; replace HO_4 := Aside0.mk (Kd.S_below (Kd.S_below HO_4.out lt_) hb); replace HO316 := Aside0.mk (Kd.R_below (Kd.R_below HO316.out lt_) hb); have BK318 := Aside0.mk (hbox); have GW318 := Aside0.mk ((by rw [hg]; exact (below_size (at_ HB.out)) : w.heap.size ≤ gb318)); have GE318 := Aside0.mk ((by rw [hg]; exact (below_size (at_ HB.out)) : w.heap.size ≤ gb318)); replace HB := Aside0.mk (below_step (at_ HB.out) hb); have NB312_318 := Aside0.mk ((by rw [hg]; exact Nat.ne_of_lt (blk_lt (g := gb312) (o := .cells #[.int .i64 t307, .slice Ao37 t308.length co37] 51 (0, 0)) (by (with_reducible repeat (first | refine blk_drewN ?_ _ | refine blk_drew ?_ | refine blk_alloc ?_ _)); exact BK312.out)) : gb312 ≠ gb318)); have NB318_312 := Aside0.mk ((by rw [hg]; exact Nat.ne_of_gt (blk_lt (g := gb312) (o := .cells #[.int .i64 t307, .slice Ao37 t308.length co37] 51 (0, 0)) (by (with_reducible repeat (first | refine blk_drewN ?_ _ | refine blk_drew ?_ | refine blk_alloc ?_ _)); exact BK312.out)) : gb318 ≠ gb312)); (try clear HO_5 HO_6 HO310 BK312); clear hb hbox hg; have hnb41 := NB318_312.out; have hnc41 := NB312_318.out; have hcz42_0 := blk_cell BK318.out 0; have hcz42_1 := blk_cell BK318.out 1; have hfz42_0 := blk_frozen BK318.out 0; have hfz42_1 := blk_frozen BK318.out 1; obtain ⟨Ao43, co43, eo43⟩ := Kd.R_slice HO316.out; subst eo43) | ((with_reducible refine gate_callee (f := 21) rfl ?_); refine goesL_ (some 57) rfl rfl Try.func21 (by kernel_rfl) rfl #[] rfl (by (try simp only [List.map_toArray, List.map_cons, List.map_nil]); first | done | rfl | (simp only [List.length_drop, List.length_take]; rfl)) ?_; (with_reducible refine (laws_alive.calls  true _ A29.out).mono ?_); rintro e w' ⟨rfl, ⟨nd, rfl⟩⟩; refine ⟨_, rfl, ?_⟩) | (go_at_call 22; (with_reducible refine (impl_ClashOk.calls kj5 t287 _ _ t288 t320 _ ?side1 ?side2 A32.out).mono ?_); (case side1 => refine (Kd.S_reads' (e := 38) (base := w.heap.size) (ok := fun k_ => (some k_ ≠ (.slice Ao11 t289.length co11 : Value).ownBlock ∧ some k_ ≠ (.slice Ao38 y300.length co38 : Value).ownBlock)) (n := t288.length) (c := co33) ?_).2.2; exact (by (with_reducible repeat (first | apply Kd.S_alloc | apply Kd.S_drewN | apply Kd.S_drew)); exact (Kd.S_mono (Kd.S_far (p := ⟨gb318, 1, none⟩) (Kd.S_far (p := ⟨gb318, 0, none⟩) (Kd.S_types HO_4.out BK318.out (by decide)) (fun _ hk => hk.2) (.int .i64 t313)) (fun _ hk => hk.2) (.slice Ao43 t314.length co43)) (fun _ h_ => h_.1)))); (case side2 => exact (Kd.S_reads' HO_4.out).2.1); rintro e w44 ⟨rfl, hb⟩; replace HB := Aside0.mk (below_step (at_ HB.out) hb); (try clear HO_4 HO_5 HO_6 HO310 HO316 BK312 BK318); (try clear hb); (try clear hb2); (try clear hk); (try clear hi)))
   go_ret
   exact ⟨by first | rfl | (simp [errW_none, errW_some] <;> rfl) | (simp [*, errW_none, errW_some] <;> rfl), at_ HB.out⟩
  replace c31 := Bool.eq_false_iff.mpr c31
  subst c31
  rw [if_neg (show ¬ (false = true) by decide)] at H
  replace H := Option.bind_eq_some_iff.mp H
  obtain ⟨t321, A450, H⟩ := H
  replace H : (some (false == t321)) = some r := H
  have A45 := Aside0.mk A450
  clear A450
  obtain rfl := Option.some.inj H
  obtain ⟨Ao46, co46, eo46⟩ := Kd.S_slice HO_4.out
  subst eo46
  go_wp2_with (first | ((with_reducible refine gate_callee (f := 29) rfl ?_); refine goesL_ (some 47) rfl rfl Try.func29 (by kernel_rfl) rfl #[.int .i64 t287, .slice Ao46 t288.length co46, .slice Ao11 t289.length co11] rfl (by (try simp only [List.map_toArray, List.map_cons, List.map_nil]); first | done | rfl | (simp only [List.length_drop, List.length_take]; rfl)) ?_; (with_reducible refine (impl_FindProof.calls t287 _ _ t288 _ _ t289 t307 t308 false _ ?side1 ?side2 ?side3 ?side4 A27.out).mono ?_); (case side1 => exact Kd.C_below (Kd.S_reads' HO_4.out).2.2 lt_); (case side2 => exact (Kd.S_reads' HO_4.out).2.1); (case side3 => exact Kd.C_below (Kd.R_reads' HO_5.out).2.2 lt_); (case side4 => exact (Kd.R_reads' HO_5.out).2.1); rintro e w47 ⟨v309, rfl, ho0, hb⟩; refine ⟨_, rfl, ?_⟩; replace HO_4 := Aside0.mk (Kd.S_below (Kd.S_below HO_4.out lt_) hb); replace HO_6 := Aside0.mk (Kd.R_below (Kd.R_below HO_6.out lt_) hb); have HO310 := Aside0.mk (Kd.R_lower ho0 (below_size (below_at HB.out))); replace HB := Aside0.mk (below_step (below_at HB.out) hb); (try clear HO_5); (try clear hb); (try clear hb2); (try clear hk); (try clear hi); (try clear ho0)) | ((with_reducible refine gate_dst (N := 7) rfl ?_); refine box_event ?hg (N := 7) ?hd (cs := #[.int .i64 0, .slice none 0 0]) (t := 51) ?hr ?_; (case hd => rfl); (case hg => rfl); (case hr => first | (go_simp; done) | (go_simp; rfl)); intro gb312 hg w48 hbox hb; replace HO_4 := Aside0.mk (Kd.S_below (Kd.S_below HO_4.out lt_) hb); replace HO_6 := Aside0.mk (Kd.R_below (Kd.R_below HO_6.out lt_) hb); replace HO310 := Aside0.mk (Kd.R_below (Kd.R_below HO310.out lt_) hb); have BK312 := Aside0.mk (hbox); have GW312 := Aside0.mk ((by rw [hg]; exact (below_size (below_at HB.out)) : w.heap.size ≤ gb312)); have GE312 := Aside0.mk ((by rw [hg]; exact (below_size (below_at HB.out)) : w.heap.size ≤ gb312)); replace HB := Aside0.mk (below_step (below_at HB.out) hb); (try clear HO_5); clear hb hbox hg; have hcz49_0 := blk_cell BK312.out 0; have hcz49_1 := blk_cell BK312.out 1; have hfz49_0 := blk_frozen BK312.out 0; have hfz49_1 := blk_frozen BK312.out 1; obtain ⟨Ao50, co50, eo50⟩ := Kd.R_slice HO310.out; subst eo50; obtain ⟨Ao51, co51, eo51⟩ := Kd.R_slice HO_6.out; subst eo51) | ((with_reducible refine gate_callee (f := 29) rfl ?_); refine goesL_ (some 54) rfl rfl Try.func29 (by kernel_rfl) rfl #[.int .i64 t287, .slice Ao46 t288.length co46, .slice Ao51 y300.length co51] rfl (by (try simp only [List.map_toArray, List.map_cons, List.map_nil]); first | done | rfl | (simp only [List.length_drop, List.length_take]; rfl)) ?_; (with_reducible refine (impl_FindProof.calls t287 _ _ t288 _ _ y300 t313 t314 t317 _ ?side1 ?side2 ?side3 ?side4 A28.out).mono ?_); (case side1 => refine (Kd.S_reads' (e := 38) (base := w.heap.size) (ok := fun k_ => (some k_ ≠ (.slice Ao11 t289.length co11 : Value).ownBlock ∧ some k_ ≠ (.slice Ao51 y300.length co51 : Value).ownBlock)) (n := t288.length) (c := co46) ?_).2.2; exact (by (with_reducible repeat (first | apply Kd.S_alloc | apply Kd.S_drewN | apply Kd.S_drew)); exact (Kd.S_mono (Kd.S_far (p := ⟨gb312, 1, none⟩) (Kd.S_far (p := ⟨gb312, 0, none⟩) (Kd.S_types HO_4.out BK312.out (by decide)) (fun _ hk => hk.2) (.int .i64 t307)) (fun _ hk => hk.2) (.slice Ao50 t308.length co50)) (fun _ h_ => h_.1)))); (case side2 => exact (Kd.S_reads' HO_4.out).2.1); (case side3 => refine (Kd.R_reads' (e := 47) (base := w.heap.size) (ok := fun k_ => some k_ ≠ (.slice Ao11 t289.length co11 : Value).ownBlock) (n := y300.length) (c := co51) ?_).2.2; exact (by (with_reducible repeat (first | apply Kd.R_alloc | apply Kd.R_drewN | apply Kd.R_drew)); exact (Kd.R_mono (Kd.R_far (p := ⟨gb312, 1, none⟩) (Kd.R_far (p := ⟨gb312, 0, none⟩) (Kd.R_types HO_6.out BK312.out (by decide)) (fun _ hk => hk.2) (.int .i64 t307)) (fun _ hk => hk.2) (.slice Ao50 t308.length co50)) (fun _ h_ => h_.1)))); (case side4 => exact (Kd.R_reads' HO_6.out).2.1); rintro e w52 ⟨v315, rfl, ho0, hb⟩; refine ⟨_, rfl, ?_⟩; replace HO_4 := Aside0.mk (Kd.S_below (by (with_reducible repeat (first | apply Kd.S_alloc | apply Kd.S_drewN | apply Kd.S_drew)); exact (Kd.S_mono (Kd.S_far (p := ⟨gb312, 1, none⟩) (Kd.S_far (p := ⟨gb312, 0, none⟩) (Kd.S_types HO_4.out BK312.out (by decide)) (fun _ hk => hk.2) (.int .i64 t307)) (fun _ hk => hk.2) (.slice Ao50 t308.length co50)) (fun _ h_ => h_.1))) hb); have HO316 := Aside0.mk (Kd.R_lower (Kd.R_new' ho0 (Kd.R_lt (by (with_reducible repeat (first | apply Kd.R_alloc | apply Kd.R_drewN | apply Kd.R_drew)); exact (Kd.R_mono (Kd.R_far (p := ⟨gb312, 1, none⟩) (Kd.R_far (p := ⟨gb312, 0, none⟩) (Kd.R_types HO310.out BK312.out (by decide)) (fun _ hk => hk.2) (.int .i64 t307)) (fun _ hk => hk.2) (.slice Ao50 t308.length co50)) (fun _ h_ => h_.1))))) (below_size (at_ HB.out))); replace BK312 := Aside0.mk (blk_below (g := gb312) (o := .cells #[.int .i64 t307, .slice Ao50 t308.length co50] 51 (0, 0)) (by (with_reducible repeat (first | refine blk_drewN ?_ _ | refine blk_drew ?_ | refine blk_alloc ?_ _)); refine blk_put (cs := #[.int .i64 t307, .slice none 0 0]) ?_ 1 _ rfl; (with_reducible repeat (first | refine blk_drewN ?_ _ | refine blk_drew ?_ | refine blk_alloc ?_ _)); refine blk_put (cs := #[.int .i64 0, .slice none 0 0]) ?_ 0 _ rfl; (with_reducible repeat (first | refine blk_drewN ?_ _ | refine blk_drew ?_ | refine blk_alloc ?_ _)); exact BK312.out) hb); replace HB := Aside0.mk (below_step (at_ HB.out) hb); (try clear HO_5 HO_6 HO310); (try clear hb); (try clear hb2); (try clear hk); (try clear hi); (try clear ho0)) | ((with_reducible refine gate_dst (N := 9) rfl ?_); refine box_event ?hg (N := 9) ?hd (cs := #[.int .i64 0, .slice none 0 0]) (t := 51) ?hr ?_; (case hd => rfl); (case hg => rfl); (case hr => first | (go_simp; done) | (go_simp; rfl)); intro gb318 hg w53 hbox hb; replace HO_4 := Aside0.mk (Kd.S_below (Kd.S_below HO_4.out lt_) hb); replace HO316 := Aside0.mk (Kd.R_below (Kd.R_below HO316.out lt_) hb); have BK318 := Aside0.mk (hbox); have GW318 := Aside0.mk ((by rw [hg]; exact (below_size (at_ HB.out)) : w.heap.size ≤ gb318)); have GE318 := Aside0.mk ((by rw [hg]; exact (below_size (at_ HB.out)) : w.heap.size ≤ gb318)); replace HB := Aside0.mk (below_step (at_ HB.out) hb); have NB312_318 := Aside0.mk ((by rw [hg]; exact Nat.ne_of_lt (blk_lt (g := gb312) (o := .cells #[.int .i64 t307, .slice Ao50 t308.length co50] 51 (0, 0)) (by (with_reducible repeat (first | refine blk_drewN ?_ _ | refine blk_drew ?_ | refine blk_alloc ?_ _)); exact BK312.out)) : gb312 ≠ gb318)); have NB318_312 := Aside0.mk ((by rw [hg]; exact Nat.ne_of_gt (blk_lt (g := gb312) (o := .cells #[.int .i64 t307, .slice Ao50 t308.length co50] 51 (0, 0)) (by (with_reducible repeat (first | refine blk_drewN ?_ _ | refine blk_drew ?_ | refine blk_alloc ?_ _)); exact BK312.out)) : gb318 ≠ gb312)); (try clear HO_5 HO_6 HO310 BK312); clear hb hbox hg; have hnb54 := NB318_312.out; have hnc54 := NB312_318.out; have hcz55_0 := blk_cell BK318.out 0; have hcz55_1 := blk_cell BK318.out 1; have hfz55_0 := blk_frozen BK318.out 0; have hfz55_1 := blk_frozen BK318.out 1; obtain ⟨Ao56, co56, eo56⟩ := Kd.R_slice HO316.out; subst eo56) | ((with_reducible refine gate_callee (f := 21) rfl ?_); refine goesL_ (some 57) rfl rfl Try.func21 (by kernel_rfl) rfl #[] rfl (by (try simp only [List.map_toArray, List.map_cons, List.map_nil]); first | done | rfl | (simp only [List.length_drop, List.length_take]; rfl)) ?_; (with_reducible refine (laws_alive.calls  true _ A29.out).mono ?_); rintro e w' ⟨rfl, ⟨nd, rfl⟩⟩; refine ⟨_, rfl, ?_⟩) | (go_at_call 22; (with_reducible refine (impl_ClashOk.calls kj5 t287 _ _ t288 t321 _ ?side1 ?side2 A45.out).mono ?_); (case side1 => refine (Kd.S_reads' (e := 38) (base := w.heap.size) (ok := fun k_ => (some k_ ≠ (.slice Ao11 t289.length co11 : Value).ownBlock ∧ some k_ ≠ (.slice Ao51 y300.length co51 : Value).ownBlock)) (n := t288.length) (c := co46) ?_).2.2; exact (by (with_reducible repeat (first | apply Kd.S_alloc | apply Kd.S_drewN | apply Kd.S_drew)); exact (Kd.S_mono (Kd.S_far (p := ⟨gb318, 1, none⟩) (Kd.S_far (p := ⟨gb318, 0, none⟩) (Kd.S_types HO_4.out BK318.out (by decide)) (fun _ hk => hk.2) (.int .i64 t313)) (fun _ hk => hk.2) (.slice Ao56 t314.length co56)) (fun _ h_ => h_.1)))); (case side2 => exact (Kd.S_reads' HO_4.out).2.1); rintro e w57 ⟨rfl, hb⟩; replace HB := Aside0.mk (below_step (at_ HB.out) hb); (try clear HO_4 HO_5 HO_6 HO310 HO316 BK312 BK318); (try clear hb); (try clear hb2); (try clear hk); (try clear hi)))
  go_ret
  exact ⟨by first | rfl | (simp [errW_none, errW_some] <;> rfl) | (simp [*, errW_none, errW_some] <;> rfl), at_ HB.out⟩

/-- THE ONE PURE STATEMENT of laws_FnProofBoth: yours. -/
noncomputable def laws_FnProofBoth.Pure : Prop := ∀ (l0 : List Int), l0.length ≤ maxLen → l0.length * 1 ≤ 140737488351232 → (∀ x ∈ l0, (Lit.int .u8 x).wf = true) → ∃ k, laws_FnProofBoth.f k l0 = some true
theorem laws_FnProofBoth.walk (P : laws_FnProofBoth.Pure) (a0 : Option Addr) (len0 cap0 : Nat) (z0 : List Int) (w : World) (w0 : (a0 = none ∧ len0 = 0 ∧ cap0 = 0 ∧ z0 = []) ∨ ∃ x, a0 = some x ∧ len0 ≤ cap0 ∧ cap0 ≤ maxLen ∧ z0.length = cap0 ∧ (∀ i, i < z0.length → w.cell? (x.add i) = some (.int .u8 (z0.getD i 0))) ∧ ∀ n ∈ z0, (Lit.int .u8 n).wf = true) (y0 : len0 * 1 ≤ 140737488351232) :
  Calls Try.prog 7 #[.slice a0 len0 cap0] w fun e w' => e = .returned (.bool true) ∧ Below w.heap.size w w' := by
 obtain ⟨l0, rfl, hr0, hm0, hw0, hc0⟩ := ReadsInt.ofRowC w0
 obtain ⟨k, h⟩ := P l0 hm0 y0 hw0
 refine (laws_FnProofBoth.calls k _ _ l0 true w (Kd.C_of_reads (d := (0 : Int)) (h1 := fun _ => rfl) hr0) hc0 h).mono ?_
 rintro e w' ⟨rfl, hd⟩
 exact ⟨rfl, hd⟩

end Go.Proofs.Ytcaogllnbpmcgaa.P

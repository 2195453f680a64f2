/- Go's functions come to just the answers of the Lean functions told here. -/
import Derived.Test.YtcaogllnbpmcgaaPx21
namespace Go.Proofs.Ytcaogllnbpmcgaa.P
open Go.RowKit Go.Proofs.YtcaogllnbpmcgaaW.PrintWords Go.Proofs.YtcaogllnbpmcgaaW.PrintLast Go.Proofs.YtcaogllnbpmcgaaW.PrintMore
attribute [local go_sem] max2_int min2_int max_two min_two max_three min_three max_four min_four
set_option linter.unusedVariables false
set_option linter.unusedSimpArgs false
def spec_l20Proved.j0 : Nat → Int → List (S38) → List (S47) → List Int → Bool → List Int → Int → Option (Int × (List (S38)) × (List (S47)) × Int)
 | 0, _, _, _, _, _, _, _ => none
 | k + 1, x5, x6, x7, x8, x30, x1000, x1001 => if x30 = true then ((spec_l20Rd_pick.f k x1000 x1001 x5).bind fun bt367 => ((some (([(⟨0, bt367.1⟩ : S47)] : List (S47)) : List (S47))).bind fun y369 => (if 0 < (x8.length : Int) then (if 0 ≤ bt367.1 then (if (Int.tmod (shr .i64 (rd x8 0) bt367.1) 2) = 0 then (if y369.length < 8796093022208 then (some (x5, x6, (y369 ++ [(⟨2, 0⟩ : S47)]), bt367.2)) else (none)) else (some (x5, x6, y369, bt367.2))) else (none)) else (none)))) else (some (x5, x6, x7, x1001))
def spec_l20Proved.f (k : Nat) (s0_0 : List Int) (s0_1 : Int) : Option (Int × (List (S38)) × (List (S47)) × Int) := (spec_l20Story.f k s0_0 s0_1 14).bind fun bt352 => ((spec_l20Term.f k s0_0 bt352.2.2 bt352.1 14).bind fun bt357 => ((spec_StoryTable.f k bt352.1 bt352.2.1).bind fun t361 => ((spec_WorldsIn.f k bt352.1 t361).bind fun t362 => (if (t362.length : Int) > 0 then ((spec_l20Rd_pick.f k s0_0 bt357.2 2).bind fun bt365 => (spec_l20Proved.j0 k bt352.1 bt352.2.1 bt357.1 t362 (bt365.1 == 0) s0_0 bt365.2)) else (spec_l20Proved.j0 k bt352.1 bt352.2.1 bt357.1 t362 false s0_0 bt357.2)))))
set_option maxHeartbeats 8000000 in
set_option maxRecDepth 100000 in
theorem spec_l20Proved.calls (k : Nat) (g : Nat) (s0_0 : List Int) (s0_1 : Int) (r1 : Int) (r2 : List (S38)) (r3 : List (S47)) (r4 : Int) (w0 w : World) (hI : IsS117 w0 w g s0_0 s0_1) (hB : Below w0.heap.size w0 w) (h : spec_l20Proved.f k s0_0 s0_1 = some (r1, r2, r3, r4)) :
  Calls Try.prog 63 #[.pointer (some ⟨g, 0, none⟩)] w fun e w' => ∃ v1_ v2_ : Value, e = .returned (.tuple #[.int .i64 r1, v1_, v2_]) ∧ Kd.S k38 38 w' w.heap.size (fun k_ => some k_ ≠ (v2_ : Value).ownBlock) v1_ r2 ∧ Kd.R k47 47 w' w.heap.size (fun _ => True) v2_ r3 ∧ IsS117 w0 w' g s0_0 r4 ∧ Below w0.heap.size w0 w' ∧ KeepBut w w' g none := by
 have hu47 := Try.underlying47
 have HI0 := mk_ hI
 have HK := mk_ (KeepBut.refl w g none)
 have HL := mk_ hB.size
 clear hI
 have HW0 := mk_ hB.size
 have HB := mk_ hB
 clear hB
 unfold spec_l20Proved.f at h
 have H := h
 clear h
 replace H := Option.bind_eq_some_iff.mp H
 obtain ⟨⟨t352, t353, t356⟩, A20, H⟩ := H
 try dsimp only at H
 have A2 := mk_ A20
 clear A20
 replace H := Option.bind_eq_some_iff.mp H
 obtain ⟨⟨t357, t360⟩, A30, H⟩ := H
 try dsimp only at H
 have A3 := mk_ A30
 clear A30
 replace H := Option.bind_eq_some_iff.mp H
 obtain ⟨t361, A40, H⟩ := H
 try dsimp only at H
 have A4 := mk_ A40
 clear A40
 replace H := Option.bind_eq_some_iff.mp H
 obtain ⟨t362, A50, H⟩ := H
 try dsimp only at H
 have A5 := mk_ A50
 clear A50
 have HC6 := mk_ H
 clear H
 go_enter Try.func63, Try.ntmps63
 go_upto_region 4 with (first | ((with_reducible refine gate_callee (f := 55) rfl ?_); refine goesL_ (some 12) rfl rfl Try.func55 (by kernel_rfl) rfl #[.pointer (some ⟨g, 0, none⟩), .int .i64 14] rfl gl_ ?_; (with_reducible refine (spec_l20Story.calls k g s0_0 s0_1 14 t352 t353 t356 w0 _ ?side1 ?side2 A2.out).mono ?_); (case side1 => exact IsS117.below HI0.out lt_); (case side2 => exact below_at HB.out); rintro e w7 ⟨v354, rfl, ho0, hi, hb, hk⟩; refine ⟨_, rfl, ?_⟩; have HO355 := mk_ (Kd.S_lower ho0 (keep_size (w := w) (g := g) (row := none) (keep_at HK.out))); replace HK := mk_ (KeepBut.trans (keep_at HK.out) hk (.inl rfl)); replace HB := mk_ (hb); replace HI0 := mk_ (hi); (try clear hb); (try clear ho0)) | ((with_reducible refine gate_callee (f := 90) rfl ?_); refine goesL_ (some 17) rfl rfl Try.func90 (by kernel_rfl) rfl #[.pointer (some ⟨g, 0, none⟩), .int .i64 t352, .int .i64 14] rfl gl_ ?_; (with_reducible refine (spec_l20Term.calls k g s0_0 t356 t352 14 t357 t360 w0 _ ?side1 ?side2 A3.out).mono ?_); (case side1 => exact IsS117.below HI0.out lt_); (case side2 => exact below_at HB.out); rintro e w8 ⟨v358, rfl, ho0, hi, hb, hk⟩; refine ⟨_, rfl, ?_⟩; replace HO355 := mk_ (Kd.S_mono (Kd.S_told (Kd.S_oldK (IsS117.apartS (show IsS117 w0 _ g s0_0 t356 from IsS117.below HI0.out lt_) (Kd.S_below HO355.out lt_) (by decide)) hk) (Kd.R_base ho0)) (fun _ h_ => h_.1)); have HO359 := mk_ (Kd.R_lower ho0 (keep_size (w := w) (g := g) (row := none) (keep_at HK.out))); replace HK := mk_ (KeepBut.trans (keep_at HK.out) hk (.inl rfl)); replace HB := mk_ (hb); replace HI0 := mk_ (hi); (try clear hb); (try clear ho0); obtain ⟨Ao9, co9, eo9⟩ := Kd.S_slice HO355.out; subst eo9) | ((with_reducible refine gate_callee (f := 92) rfl ?_); refine goesL_ (some 21) rfl rfl Try.func92 (by kernel_rfl) rfl #[.int .i64 t352, .slice Ao9 t353.length co9] rfl gl_ ?_; (with_reducible refine (spec_StoryTable.calls k t352 _ _ t353 t361 _ ?side1 ?side2 A4.out).mono ?_); (case side1 => exact Kd.C_below (Kd.S_reads' HO355.out).2.2 lt_); (case side2 => exact (Kd.S_reads' HO355.out).2.1); rintro e w10 ⟨rfl, hb⟩; refine ⟨_, rfl, ?_⟩; replace HO355 := mk_ (Kd.S_below (Kd.S_below HO355.out lt_) hb); replace HO359 := mk_ (Kd.R_below (Kd.R_below HO359.out lt_) hb); replace HI0 := mk_ (IsS117.below (IsS117.below HI0.out lt_) hb); replace HK := mk_ (KeepBut.trans (keep_at HK.out) (KeepBut.of_below hb g none) (.inl rfl)); replace HB := mk_ (below_step (below_at HB.out) hb); (try clear hb)) | ((with_reducible refine gate_callee (f := 91) rfl ?_); refine goesL_ (some 22) rfl rfl Try.func91 (by kernel_rfl) rfl #[.int .i64 t352, .int .i64 t361] rfl gl_ ?_; (with_reducible refine (spec_WorldsIn.calls k t352 t361 t362 _ A5.out).mono ?_); rintro e w11 ⟨v363, rfl, ho0, hb⟩; refine ⟨_, rfl, ?_⟩; replace HO355 := mk_ (Kd.S_below (Kd.S_below HO355.out lt_) hb); replace HO359 := mk_ (Kd.R_below (Kd.R_below HO359.out lt_) hb); have HO364 := mk_ (Kd.R_lower ho0 (keep_size (w := w) (g := g) (row := none) (keep_at HK.out))); replace HI0 := mk_ (IsS117.below (IsS117.below HI0.out lt_) hb); replace HK := mk_ (KeepBut.trans (keep_at HK.out) (KeepBut.of_below hb g none) (.inl rfl)); replace HB := mk_ (below_step (below_at HB.out) hb); (try clear hb); (try clear ho0)))
 (try simp only [Act.put, z0_, z1_, z2_])
 go_cut [30] (fun v30 wc => ∃ (kq : Nat) (x30_5 : Bool) (x1001_5 : Int), v30 = .bool x30_5 ∧ Aside0 (spec_l20Proved.j0 kq t352 t353 t357 t362 x30_5 s0_0 x1001_5 = some (r1, r2, r3, r4)) ∧ Aside0 (kq ≤ k) ∧ Aside0 (Kd.S k38 38 wc w.heap.size (fun k_ => some k_ ≠ (v358 : Value).ownBlock) (.slice Ao9 t353.length co9) t353) ∧ Aside0 (Kd.R k47 47 wc w.heap.size (fun _ => True) v358 t357) ∧ Aside0 (Kd.R (Kd.int .i64) 3 wc w.heap.size (fun _ => True) v363 t362) ∧ Aside0 (IsS117 w0 wc g s0_0 x1001_5) ∧ Aside0 (KeepBut w wc g none) ∧ Aside0 (Below w0.heap.size w0 wc))
 case first =>
  have H := HC6.out
  clear HC6
  by_cases c12 : (t362.length : Int) > 0
  rotate_left
  ·rw [if_neg c12] at H
   have c12b0 : decide (0 < (t362.length : Int)) = false := decide_eq_false c12
   have c12b1 : decide (0 < t362.length) = false := decide_eq_false (by omega)
   clear c12
   (first | rw [c12b0] | (simp only [i64_w, i32_w]; rw [c12b0]) | skip)
   have H' := mk_ H
   clear H
   obtain ⟨Ao16, co16, eo16⟩ := Kd.R_slice HO364.out
   subst eo16
   go_wp2
   go_meet
   case rel => exact ⟨_, (false), (t360), sm_, H', ⟨by first | omega | exact Nat.le_refl _⟩, ⟨Kd.S_below (Kd.S_mono HO355.out (fun _ hk => hk.2)) lt_⟩, ⟨Kd.R_below HO359.out lt_⟩, ⟨Kd.R_below HO364.out lt_⟩, ⟨IsS117.below HI0.out lt_⟩, ⟨keep_at HK.out⟩, ⟨below_at HB.out⟩⟩
  rw [if_pos c12] at H
  have c12b0 : decide (0 < (t362.length : Int)) = true := decide_eq_true c12
  have c12b1 : decide (0 < t362.length) = true := decide_eq_true (by omega)
  clear c12
  (first | rw [c12b0] | (simp only [i64_w, i32_w]; rw [c12b0]) | skip)
  replace H := Option.bind_eq_some_iff.mp H
  obtain ⟨⟨t365, t366⟩, A130, H⟩ := H
  try dsimp only at H
  have A13 := mk_ A130
  clear A130
  have H' := mk_ H
  clear H
  obtain ⟨Ao14, co14, eo14⟩ := Kd.R_slice HO364.out
  subst eo14
  go_wp2_with (first | (go_at_call 60; (with_reducible refine (spec_l20Rd_pick.calls k g s0_0 t360 2 t365 t366 w0 _ ?side1 ?side2 A13.out).mono ?_); (case side1 => exact IsS117.below HI0.out lt_); (case side2 => exact below_at HB.out); rintro e w15 ⟨rfl, hi, hb, hk⟩; replace HO355 := mk_ (Kd.S_mono (Kd.S_keep (IsS117.apartS (show IsS117 w0 _ g s0_0 t360 from IsS117.below HI0.out lt_) (Kd.S_below HO355.out lt_) (by decide)) hk (fun _ h => h.2)) (fun _ h => h.1)); replace HO359 := mk_ (Kd.R_mono (Kd.R_keep (IsS117.apart (show IsS117 w0 _ g s0_0 t360 from IsS117.below HI0.out lt_) (Kd.R_below HO359.out lt_) (by decide)) hk (fun _ h => h.2)) (fun _ h => h.1)); replace HO364 := mk_ (Kd.R_mono (Kd.R_keep (IsS117.apart (show IsS117 w0 _ g s0_0 t360 from IsS117.below HI0.out lt_) (Kd.R_below HO364.out lt_) (by decide)) hk (fun _ h => h.2)) (fun _ h => h.1)); replace HK := mk_ (KeepBut.trans (keep_at HK.out) hk (.inl rfl)); replace HB := mk_ (hb); replace HI0 := mk_ (hi); (try clear hb)))
  go_meet
  case rel => exact ⟨_, ((t365 == 0)), (t366), sm_, H', ⟨by first | omega | exact Nat.le_refl _⟩, ⟨Kd.S_below (Kd.S_mono HO355.out (fun _ hk => hk.2)) lt_⟩, ⟨Kd.R_below HO359.out lt_⟩, ⟨Kd.R_below HO364.out lt_⟩, ⟨IsS117.below HI0.out lt_⟩, ⟨keep_at HK.out⟩, ⟨below_at HB.out⟩⟩
 clear HC6
 try clear c1
 try clear p2
 try clear c5
 try clear c6
 try clear c9
 try clear c12
 try clear c12b0
 try clear c12b1
 obtain ⟨kq, x30_5, x1001_5, rfl, HA, HJ5, HO_6, HO_7, HO_8, HI0, HK, HB⟩ := hcut
 cases kq with
 | zero => exact absurd HA.out (by simp [spec_l20Proved.j0])
 | succ kj5 =>
  have H := HA.out
  clear HA
  simp only [spec_l20Proved.j0] at H
  by_cases c17 : x30_5 = true
  rotate_left
  ·replace c17 := Bool.eq_false_iff.mpr c17
   subst c17
   rw [if_neg Bool.false_ne_true] at H
   simp only [Option.some.injEq, Prod.mk.injEq] at H
   obtain ⟨rfl, rfl, rfl, rfl⟩ := H
   go_wp2
   go_ret3
   exact ⟨_, _, er_, by (with_reducible repeat (first | apply Kd.S_alloc | apply Kd.S_drewN | apply Kd.S_drew)); exact HO_6.out, rl_ HO_7.out, IsS117.below HI0.out lt_, below_at HB.out, keep_at HK.out⟩
  subst c17
  rw [if_pos rfl] at H
  replace H := Option.bind_eq_some_iff.mp H
  obtain ⟨⟨t367, t368⟩, A180, H⟩ := H
  try dsimp only at H
  have A18 := mk_ A180
  clear A180
  obtain ⟨y369, hy369⟩ : ∃ y_ : List (S47), y_ = (([(⟨0, t367⟩ : S47)] : List (S47))) := ⟨_, rfl⟩
  first | (replace H := bn_ hy369 H; try dsimp only at H) | rw [← hy369] at H
  have Ny369 := mk_ hy369
  clear hy369
  by_cases c19 : 0 < (t362.length : Int)
  rotate_left
  ·rw [if_neg c19] at H
   exact absurd H (by simp)
  rw [if_pos c19] at H
  have c19b0 : decide (0 < (t362.length : Int)) = true := decide_eq_true c19
  have c19b1 : decide (0 < t362.length) = true := decide_eq_true (by omega)
  clear c19
  by_cases c20 : 0 ≤ t367
  rotate_left
  ·rw [if_neg c20] at H
   exact absurd H (by simp)
  rw [if_pos c20] at H
  have c20b0 := eq_true c20
  have c20b1 : decide (0 ≤ t367) = true := decide_eq_true c20
  clear c20
  obtain ⟨ji21, hji21⟩ : ∃ j_ : Int, (shr .i64 (rd t362 0) t367) = j_ := ⟨_, rfl⟩
  first | rw [hji21] at H | simp only [hji21] at H
  (try rw [hji21] at A18)
  have hji21_ : ((rd t362 0) / 2 ^ min t367.toNat 64) = ji21 := hji21
  have hji21z : t367 ≤ 64 → ((rd t362 0) / 2 ^ t367.toNat) = ji21 := shr_small hji21
  by_cases c22 : (Int.tmod (ji21) 2) = 0
  rotate_left
  ·rw [if_neg c22] at H
   have c22b0 : ((Int.tmod (ji21) 2) == 0) = false := beq_eq_false_iff_ne.mpr c22
   have c22b1 : ((Int.tmod (ji21) 2) != 0) = true := bne_iff_ne.mpr c22
   simp only [Option.some.injEq, Prod.mk.injEq] at H
   obtain ⟨rfl, rfl, rfl, rfl⟩ := H
   go_wp2_with (first | ((with_reducible refine gate_callee (f := 60) rfl ?_); refine goesL_ (some 33) rfl rfl Try.func60 (by kernel_rfl) rfl #[.pointer (some ⟨g, 0, none⟩), .int .i64 t352] rfl gl_ ?_; (with_reducible refine (spec_l20Rd_pick.calls kj5 g s0_0 x1001_5 t352 t367 t368 w0 _ ?side1 ?side2 A18.out).mono ?_); (case side1 => exact IsS117.below HI0.out lt_); (case side2 => exact below_at HB.out); rintro e w29 ⟨rfl, hi, hb, hk⟩; refine ⟨_, rfl, ?_⟩; replace HO_6 := mk_ (Kd.S_mono (Kd.S_keep (IsS117.apartS (show IsS117 w0 _ g s0_0 x1001_5 from IsS117.below HI0.out lt_) (Kd.S_below HO_6.out lt_) (by decide)) hk (fun _ h => h.2)) (fun _ h => h.1)); replace HO_7 := mk_ (Kd.R_mono (Kd.R_keep (IsS117.apart (show IsS117 w0 _ g s0_0 x1001_5 from IsS117.below HI0.out lt_) (Kd.R_below HO_7.out lt_) (by decide)) hk (fun _ h => h.2)) (fun _ h => h.1)); replace HO_8 := mk_ (Kd.R_mono (Kd.R_keep (IsS117.apart (show IsS117 w0 _ g s0_0 x1001_5 from IsS117.below HI0.out lt_) (Kd.R_below HO_8.out lt_) (by decide)) hk (fun _ h => h.2)) (fun _ h => h.1)); replace HK := mk_ (KeepBut.trans (keep_at HK.out) hk (.inl rfl)); replace HB := mk_ (hb); replace HI0 := mk_ (hi); (try clear hb)) | ((with_reducible refine gate_dst (N := 36) rfl ?_); refine Kd.R_lit k47 _ 47 ?hg (N := 36) ?hd (xs := ([(⟨0, t367⟩ : S47)] : List (S47))) (inner := [.int .i64 0, .int .i64 t367]) (ok := fun _ => True) (okp := fun _ => True) ?hr ?hp (fun _ hk => hk) trivial (Below.refl _ _) (Nat.le_refl _) (by simp) ?_; (case hd => rfl); (case hg => rfl); (case hr => first | (go_simp; done) | (go_simp; rfl)); (case hp => exact (Reps.c2 (show Kd.M k47 _ _ _ (⟨0, t367⟩ : S47) [.int .i64 0, .int .i64 t367] from (k47_mkM _ _ _ (⟨0, t367⟩ : S47) )) (Reps.none _ _))); intro v370 w30 ho31 hb hg_ hnew_; clear hg_ hnew_; (first | rw [← Ny369.out] at ho31 | (simp only [Int.reduceToNat] at ho31; rw [← Ny369.out] at ho31)); replace HO_6 := mk_ (Kd.S_elder' (Kd.S_below HO_6.out lt_) (Kd.R_base ho31) hb); replace HO_8 := mk_ (Kd.R_below (Kd.R_below HO_8.out lt_) hb); have HO371 := mk_ (Kd.R_lower (Kd.R_new' ho31 (Kd.R_lt (Kd.R_below HO_7.out lt_))) (keep_size (w := w) (g := g) (row := none) (keep_at HK.out))); replace HI0 := mk_ (IsS117.below (IsS117.below HI0.out lt_) hb); replace HK := mk_ (KeepBut.trans (keep_at HK.out) (KeepBut.of_below hb g none) (.inl rfl)); replace HB := mk_ (below_step (below_at HB.out) hb); (try clear HO_7); clear hb ho31; obtain ⟨Ao32, co32, eo32⟩ := Kd.R_slice HO_8.out; subst eo32; have p372 : 0 ≤ (0 : Int) := (by omega); have q372 : 0 < (t362.length : Int) := oa_; obtain ⟨ad372, e372, hx372_0⟩ := Kd.at_int (Kd.R_reads' HO_8.out).2.2 0 p372 q372; cases e372; have qi372 : (0 < t362.length) = True := eq_true (by omega); (try rw [show ((0 : Int)).toNat = 0 from rfl] at hx372_0); (try rw [Addr.add_zero'] at hx372_0); replace p372 := eq_true p372; replace q372 := eq_true q372))
   go_ret3
   exact ⟨_, _, by first | rfl | (simp [errW_none, errW_some] <;> rfl) | (simp only [← hji21]; first | rfl | (simp [errW_none, errW_some] <;> rfl)) | (simp [*, errW_none, errW_some] <;> rfl), by (with_reducible repeat (first | apply Kd.S_alloc | apply Kd.S_drewN | apply Kd.S_drew)); exact Kd.S_mono HO_6.out (fun _ hk => hk.2), by (with_reducible repeat (first | apply Kd.R_alloc | apply Kd.R_drewN | apply Kd.R_drew)); exact Kd.R_mono HO371.out (fun _ hk => trivial), IsS117.below HI0.out lt_, below_at HB.out, keep_at HK.out⟩
  rw [if_pos c22] at H
  have c22b0 : ((Int.tmod (ji21) 2) == 0) = true := beq_iff_eq.mpr c22
  have c22b1 : ((Int.tmod (ji21) 2) != 0) = false := bne_eq_false_iff_eq.mpr c22
  clear c22
  by_cases c23 : y369.length < 8796093022208
  rotate_left
  ·rw [if_neg c23] at H
   exact absurd H (by simp)
  rw [if_pos c23] at H
  have LMc23 := mk_ c23
  clear c23
  obtain ⟨y373, hy373⟩ : ∃ y_ : List (S47), y_ = (y369 ++ [(⟨2, 0⟩ : S47)]) := ⟨_, rfl⟩
  first | (replace H := bn_ hy373 H; try dsimp only at H) | rw [← hy373] at H
  have Ny373 := mk_ hy373
  clear hy373
  simp only [Option.some.injEq, Prod.mk.injEq] at H
  obtain ⟨rfl, rfl, rfl, rfl⟩ := H
  go_wp2_with (first | ((with_reducible refine gate_callee (f := 60) rfl ?_); refine goesL_ (some 33) rfl rfl Try.func60 (by kernel_rfl) rfl #[.pointer (some ⟨g, 0, none⟩), .int .i64 t352] rfl gl_ ?_; (with_reducible refine (spec_l20Rd_pick.calls kj5 g s0_0 x1001_5 t352 t367 t368 w0 _ ?side1 ?side2 A18.out).mono ?_); (case side1 => exact IsS117.below HI0.out lt_); (case side2 => exact below_at HB.out); rintro e w24 ⟨rfl, hi, hb, hk⟩; refine ⟨_, rfl, ?_⟩; replace HO_6 := mk_ (Kd.S_mono (Kd.S_keep (IsS117.apartS (show IsS117 w0 _ g s0_0 x1001_5 from IsS117.below HI0.out lt_) (Kd.S_below HO_6.out lt_) (by decide)) hk (fun _ h => h.2)) (fun _ h => h.1)); replace HO_7 := mk_ (Kd.R_mono (Kd.R_keep (IsS117.apart (show IsS117 w0 _ g s0_0 x1001_5 from IsS117.below HI0.out lt_) (Kd.R_below HO_7.out lt_) (by decide)) hk (fun _ h => h.2)) (fun _ h => h.1)); replace HO_8 := mk_ (Kd.R_mono (Kd.R_keep (IsS117.apart (show IsS117 w0 _ g s0_0 x1001_5 from IsS117.below HI0.out lt_) (Kd.R_below HO_8.out lt_) (by decide)) hk (fun _ h => h.2)) (fun _ h => h.1)); replace HK := mk_ (KeepBut.trans (keep_at HK.out) hk (.inl rfl)); replace HB := mk_ (hb); replace HI0 := mk_ (hi); (try clear hb)) | ((with_reducible refine gate_dst (N := 36) rfl ?_); refine Kd.R_lit k47 _ 47 ?hg (N := 36) ?hd (xs := ([(⟨0, t367⟩ : S47)] : List (S47))) (inner := [.int .i64 0, .int .i64 t367]) (ok := fun _ => True) (okp := fun _ => True) ?hr ?hp (fun _ hk => hk) trivial (Below.refl _ _) (Nat.le_refl _) (by simp) ?_; (case hd => rfl); (case hg => rfl); (case hr => first | (go_simp; done) | (go_simp; rfl)); (case hp => exact (Reps.c2 (show Kd.M k47 _ _ _ (⟨0, t367⟩ : S47) [.int .i64 0, .int .i64 t367] from (k47_mkM _ _ _ (⟨0, t367⟩ : S47) )) (Reps.none _ _))); intro v370 w25 ho26 hb hg_ hnew_; clear hg_ hnew_; (first | rw [← Ny369.out] at ho26 | (simp only [Int.reduceToNat] at ho26; rw [← Ny369.out] at ho26)); replace HO_6 := mk_ (Kd.S_elder' (Kd.S_below HO_6.out lt_) (Kd.R_base ho26) hb); replace HO_8 := mk_ (Kd.R_below (Kd.R_below HO_8.out lt_) hb); have HO371 := mk_ (Kd.R_lower (Kd.R_new' ho26 (Kd.R_lt (Kd.R_below HO_7.out lt_))) (keep_size (w := w) (g := g) (row := none) (keep_at HK.out))); replace HO_7 := mk_ (Kd.R_elder' (Kd.R_below HO_7.out lt_) (Kd.R_base ho26) hb); replace HI0 := mk_ (IsS117.below (IsS117.below HI0.out lt_) hb); replace HK := mk_ (KeepBut.trans (keep_at HK.out) (KeepBut.of_below hb g none) (.inl rfl)); replace HB := mk_ (below_step (below_at HB.out) hb); clear hb ho26; obtain ⟨Ao27, co27, eo27⟩ := Kd.R_slice HO_8.out; subst eo27; have p372 : 0 ≤ (0 : Int) := (by omega); have q372 : 0 < (t362.length : Int) := oa_; obtain ⟨ad372, e372, hx372_0⟩ := Kd.at_int (Kd.R_reads' HO_8.out).2.2 0 p372 q372; cases e372; have qi372 : (0 < t362.length) = True := eq_true (by omega); (try rw [show ((0 : Int)).toNat = 0 from rfl] at hx372_0); (try rw [Addr.add_zero'] at hx372_0); replace p372 := eq_true p372; replace q372 := eq_true q372) | ((with_reducible refine gate_builtin (b := .append) (xs := #[.tmp 44, .tmp 46]) rfl ?_); at_builtin; refine Kd.R_append k47 w.heap.size rfl (.tmp 44) (.tmp 46) 36 47 (.agg #[(.int .i64 0), (.int .i64 0)]) 16 rfl Try.underlying36 info47 rfl (by decide) (by omega) v370 y369 (⟨2, 0⟩ : S47) [.int .i64 2, .int .i64 0] (fun k_ => some k_ ≠ (v358 : Value).ownBlock) (fun _ => False) rfl rfl ?aP (fun _ hk => hk.elim) ?aF ?aO (Below.refl _ _) ?aS ?aL ?_; (case aP => exact k47_mkM _ _ _ (⟨2, 0⟩ : S47)); (case aF => exact (fun k_ hk => Kd.fresh' (Kd.R_lt (Kd.R_below HO_7.out lt_)) k_ hk)); (case aO => exact (Kd.R_below (Kd.R_mono HO371.out (fun _ hk => hk.2)) lt_)); (case aS => exact (keep_size (w := w) (g := g) (row := none) (keep_at HK.out))); (case aL => have := LMc23.out; omega); intro v374 w28 ho hb hg hat; rw [← Ny373.out] at ho; replace HO_6 := mk_ (Kd.S_after (ok := (fun k_ => some k_ ≠ (v358 : Value).ownBlock)) (Kd.S_below HO_6.out lt_) hg hat); replace HI0 := mk_ (IsS117.grown (IsS117.below HI0.out lt_) hg (IsS117.own_ne HI0.out HO371.out (by decide))); replace HB := mk_ (below_weaken (below_at HB.out) HL.out hb); replace HK := mk_ (KeepBut.trans (keep_at HK.out) (KeepBut.of_grown hg g) (Kd.R_base2 HO371.out)); have HO375 := mk_ (ho); (try clear HO_7 HO_8 HO371); clear ho hb hg hat))
  go_ret3
  exact ⟨_, _, by first | rfl | (simp [errW_none, errW_some] <;> rfl) | (simp only [← hji21]; first | rfl | (simp [errW_none, errW_some] <;> rfl)) | (simp [*, errW_none, errW_some] <;> rfl), by (with_reducible repeat (first | apply Kd.S_alloc | apply Kd.S_drewN | apply Kd.S_drew)); exact Kd.S_mono HO_6.out (fun _ hk => hk.2), by (with_reducible repeat (first | apply Kd.R_alloc | apply Kd.R_drewN | apply Kd.R_drew)); exact Kd.R_mono HO375.out (fun _ hk => trivial), IsS117.below HI0.out lt_, below_at HB.out, keep_at HK.out⟩
end Go.Proofs.Ytcaogllnbpmcgaa.P

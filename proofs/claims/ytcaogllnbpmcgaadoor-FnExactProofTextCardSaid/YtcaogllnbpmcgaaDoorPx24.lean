/- Go's functions come to just the answers of the Lean functions told here. -/
import Derived.Test.YtcaogllnbpmcgaaDoorPx22
import Derived.Test.YtcaogllnbpmcgaaDoorPx23
namespace Go.Proofs.YtcaogllnbpmcgaaDoor.P
open Go.RowKit Go.Proofs.YtcaogllnbpmcgaaDoorW.PrintWords Go.Proofs.YtcaogllnbpmcgaaDoorW.PrintLast Go.Proofs.YtcaogllnbpmcgaaDoorW.PrintMore
attribute [local go_sem] max2_int min2_int max_two min_two max_three min_three max_four min_four
set_option linter.unusedVariables false
set_option linter.unusedSimpArgs false

/-! ### laws_FnExactProofText: function 4 -/
noncomputable def laws_FnExactProofText.f (k : Nat) (a0 : Int) (l1 : List (S76)) (l2 : List (S84)) (a3_0 : Int) (l3_1 : List (S114)) : Option (Bool) := (laws_szClaimS.f k l1 1048576).bind fun t346 => (if t346 < 0 then (some true) else ((laws_szMarkS.f l2 t346).bind fun t347 => (if t347 < 0 then (some true) else ((laws_szProof.f a3_0 l3_1 t347).bind fun t348 => (if t348 < 0 then (some true) else ((laws_toClaimS.f k l1).bind fun t349 => ((laws_toMarkS.f k l2).bind fun t352 => ((laws_toProof.f k a3_0 l3_1).bind fun bt355 => ((spec_ProofText.f k a0 t349 t352 bt355.1 bt355.2).bind fun t359 => ((laws_toClaimS.f k l1).bind fun t360 => ((laws_toMarkS.f k l2).bind fun t363 => ((laws_toProof.f k a3_0 l3_1).bind fun bt366 => ((impl_ProofText.f k a0 t360 t363 bt366.1 bt366.2).bind fun t371 => (if t371.toList = t359.toList then ((laws_toClaimS.f k l1).bind fun t372 => ((laws_eqClaimS.f k t360 t372).bind fun t375 => (if t375 = true then ((laws_toMarkS.f k l2).bind fun t376 => ((laws_eqMarkS.f k t363 t376).bind fun t379 => (if t379 = true then ((laws_toProof.f k a3_0 l3_1).bind fun bt380 => ((laws_eqProof.f k bt366.1 bt366.2 bt380.1 bt380.2).bind fun t384 => (if t384 = true then (some true) else (some false)))) else (some false)))) else (some false)))) else (some false)))))))))))))))
theorem laws_FnExactProofText.mono : ∀ a0 a1 a2 a3 a4 k, LeO (laws_FnExactProofText.f k a0 a1 a2 a3 a4) (laws_FnExactProofText.f (k + 1) a0 a1 a2 a3 a4) := by
 intro a0 a1 a2 a3 a4 k
 unfold laws_FnExactProofText.f
 repeat' first
   | (with_reducible exact impl_ProofText.mono _ _ _ _ _ _)
   | (with_reducible exact laws_eqClaimS.mono _ _ _)
   | (with_reducible exact laws_eqMarkS.mono _ _ _)
   | (with_reducible exact laws_eqProof.mono _ _ _ _ _)
   | (with_reducible exact laws_szClaimS.mono _ _ _)
   | (with_reducible exact laws_toClaimS.mono _ _)
   | (with_reducible exact laws_toMarkS.mono _ _)
   | (with_reducible exact laws_toProof.mono _ _ _)
   | (with_reducible exact spec_ProofText.mono _ _ _ _ _ _)
   | (with_reducible exact LeO.refl _)
   | (with_reducible exact LeO.none _)
   | (with_reducible refine LeO.ite ?_ ?_)
   | (with_reducible refine LeO.bind ?_ (fun _ => ?_))
def laws_FnExactProofText.T11 : Bool × List (List Nat × List Nat) := (true, [([], []), ([], []), ([1], [1]), ([], []), ([3, 2], [3]), ([], []), ([5, 4], [5]), ([0, 2, 4, 6, 6], [0, 2, 4, 6]), ([7, 7, 0, 1, 2, 3, 4, 5, 6, 7], [7])])
def laws_FnExactProofText.B11 : List Nat := [0, 0, 2, 0, 14, 0, 62, 127, 255]
theorem laws_FnExactProofText.tab11 : rtab .any (opsOf Tryd.f4 11) = laws_FnExactProofText.T11 := by kernel_rfl
theorem laws_FnExactProofText.bits11 : waitsOk laws_FnExactProofText.T11.2 laws_FnExactProofText.B11 = true := by kernel_rfl
set_option maxHeartbeats 8000000 in
set_option maxRecDepth 100000 in
theorem laws_FnExactProofText.calls (k : Nat) (a0 : Int) (A1 : Option Addr) (c1 : Nat) (l1 : List (S76)) (A2 : Option Addr) (c2 : Nat) (l2 : List (S84)) (a3_0 : Int) (A3_1 : Option Addr) (c3_1 : Nat) (l3_1 : List (S114)) (r : Bool) (w : World) (hr1 : Kd.C k76 w A1 l1.length l1) (hc1 : l1.length ≤ c1) (hr2 : Kd.C k84 w A2 l2.length l2) (hc2 : l2.length ≤ c2) (hr3_1 : Kd.C k114 w A3_1 l3_1.length l3_1) (hc3_1 : l3_1.length ≤ c3_1) (h : laws_FnExactProofText.f k a0 l1 l2 a3_0 l3_1 = some r) :
  Calls Tryd.prog 4 #[.int .i64 a0, .slice A1 l1.length c1, .slice A2 l2.length c2, .agg #[.int .i64 a3_0, .slice A3_1 l3_1.length c3_1]] w fun e w' => e = .returned (.bool r) ∧ Below w.heap.size w w' := by
 have hu40 := Tryd.underlying40
 have hu27 := Tryd.underlying27
 have HR1 := mk_ hr1
 have HC1 := mk_ hc1
 clear hr1 hc1
 have HR2 := mk_ hr2
 have HC2 := mk_ hc2
 clear hr2 hc2
 have HR3_1 := mk_ hr3_1
 have HC3_1 := mk_ hc3_1
 clear hr3_1 hc3_1
 have HB := mk_ (Below.refl w.heap.size w)
 unfold laws_FnExactProofText.f at h
 have H := h
 clear h
 replace H := Option.bind_eq_some_iff.mp H
 obtain ⟨t346, A50, H⟩ := H
 try dsimp only at H
 have A5 := mk_ A50
 clear A50
 by_cases c6 : t346 < 0
 ·rw [if_pos c6] at H
  have c6b0 : decide (t346 < 0) = true := decide_eq_true c6
  clear c6
  obtain rfl := Option.some.inj H
  go_enter Tryd.func4, Tryd.ntmps4
  go_wp2_with (first | ((with_reducible refine gate_dst (N := 7) rfl ?_); refine box_event ?hg (N := 7) ?hd (cs := #[.int .i64 a3_0, .slice A3_1 l3_1.length c3_1]) (t := 40) ?hr ?_; (case hd => rfl); (case hg => rfl); (case hr => first | (go_simp; done) | (go_simp; rfl)); intro gb345 hg w7 hbox hb; have GW345 := mk_ (gb_ hg HB.out); have GE345 := mk_ (gb_ hg HB.out); replace HB := mk_ (below_step (below_at HB.out) hb); clear hb hbox hg) | ((with_reducible refine gate_callee (f := 13) rfl ?_); refine goesL_ (some 17) rfl rfl Tryd.func13 (by kernel_rfl) rfl #[.slice A1 l1.length c1, .int .i64 1048576] rfl gl_ ?_; (with_reducible refine (laws_szClaimS.calls k _ _ l1 1048576 t346 _ ?side1 ?side2 A5.out).mono ?_); (case side1 => exact Kd.C_below (Kd.C_below HR1.out HB.out) lt_); (case side2 => exact HC1.out); rintro e w8 ⟨rfl, hb⟩; refine ⟨_, rfl, ?_⟩; replace HB := mk_ (below_step (at_ HB.out) hb); (try clear BK345); (try clear hb); (try clear hb2); (try clear hk); (try clear hi)))
  go_ret
  exact ⟨er_, at_ HB.out⟩
 rw [if_neg c6] at H
 have c6b0 : decide (t346 < 0) = false := decide_eq_false c6
 clear c6
 replace H := Option.bind_eq_some_iff.mp H
 obtain ⟨t347, A90, H⟩ := H
 try dsimp only at H
 have A9 := mk_ A90
 clear A90
 by_cases c10 : t347 < 0
 ·rw [if_pos c10] at H
  have c10b0 : decide (t347 < 0) = true := decide_eq_true c10
  clear c10
  obtain rfl := Option.some.inj H
  go_enter Tryd.func4, Tryd.ntmps4
  go_wp2_with (first | ((with_reducible refine gate_dst (N := 7) rfl ?_); refine box_event ?hg (N := 7) ?hd (cs := #[.int .i64 a3_0, .slice A3_1 l3_1.length c3_1]) (t := 40) ?hr ?_; (case hd => rfl); (case hg => rfl); (case hr => first | (go_simp; done) | (go_simp; rfl)); intro gb345 hg w11 hbox hb; have GW345 := mk_ (gb_ hg HB.out); have GE345 := mk_ (gb_ hg HB.out); replace HB := mk_ (below_step (below_at HB.out) hb); clear hb hbox hg) | ((with_reducible refine gate_callee (f := 13) rfl ?_); refine goesL_ (some 17) rfl rfl Tryd.func13 (by kernel_rfl) rfl #[.slice A1 l1.length c1, .int .i64 1048576] rfl gl_ ?_; (with_reducible refine (laws_szClaimS.calls k _ _ l1 1048576 t346 _ ?side1 ?side2 A5.out).mono ?_); (case side1 => exact Kd.C_below (Kd.C_below HR1.out HB.out) lt_); (case side2 => exact HC1.out); rintro e w12 ⟨rfl, hb⟩; refine ⟨_, rfl, ?_⟩; replace HB := mk_ (below_step (at_ HB.out) hb); (try clear BK345); (try clear hb); (try clear hb2); (try clear hk); (try clear hi)) | ((with_reducible refine gate_callee (f := 14) rfl ?_); refine goesL_ (some 22) rfl rfl Tryd.func14 (by kernel_rfl) rfl #[.slice A2 l2.length c2, .int .i64 t346] rfl gl_ ?_; (with_reducible refine (laws_szMarkS.calls _ _ l2 t346 t347 _ ?side1 ?side2 A9.out).mono ?_); (case side1 => exact Kd.C_below (Kd.C_below HR2.out HB.out) lt_); (case side2 => exact HC2.out); rintro e w' ⟨rfl, ⟨nd, rfl⟩⟩; refine ⟨_, rfl, ?_⟩))
  go_ret
  exact ⟨er_, at_ HB.out⟩
 rw [if_neg c10] at H
 have c10b0 : decide (t347 < 0) = false := decide_eq_false c10
 clear c10
 replace H := Option.bind_eq_some_iff.mp H
 obtain ⟨t348, A130, H⟩ := H
 try dsimp only at H
 have A13 := mk_ A130
 clear A130
 by_cases c14 : t348 < 0
 ·rw [if_pos c14] at H
  have c14b0 : decide (t348 < 0) = true := decide_eq_true c14
  clear c14
  obtain rfl := Option.some.inj H
  go_enter Tryd.func4, Tryd.ntmps4
  go_wp2_with (first | ((with_reducible refine gate_dst (N := 7) rfl ?_); refine box_event ?hg (N := 7) ?hd (cs := #[.int .i64 a3_0, .slice A3_1 l3_1.length c3_1]) (t := 40) ?hr ?_; (case hd => rfl); (case hg => rfl); (case hr => first | (go_simp; done) | (go_simp; rfl)); intro gb345 hg w15 hbox hb; have BK345 := mk_ (hbox); have GW345 := mk_ (gb_ hg HB.out); have GE345 := mk_ (gb_ hg HB.out); replace HB := mk_ (below_step (below_at HB.out) hb); clear hb hbox hg) | ((with_reducible refine gate_callee (f := 13) rfl ?_); refine goesL_ (some 17) rfl rfl Tryd.func13 (by kernel_rfl) rfl #[.slice A1 l1.length c1, .int .i64 1048576] rfl gl_ ?_; (with_reducible refine (laws_szClaimS.calls k _ _ l1 1048576 t346 _ ?side1 ?side2 A5.out).mono ?_); (case side1 => exact Kd.C_below (Kd.C_below HR1.out HB.out) lt_); (case side2 => exact HC1.out); rintro e w16 ⟨rfl, hb⟩; refine ⟨_, rfl, ?_⟩; replace BK345 := mk_ (blk_at BK345.out hb); replace HB := mk_ (below_step (at_ HB.out) hb); (try clear hb); (try clear hb2); (try clear hk); (try clear hi)) | ((with_reducible refine gate_callee (f := 14) rfl ?_); refine goesL_ (some 22) rfl rfl Tryd.func14 (by kernel_rfl) rfl #[.slice A2 l2.length c2, .int .i64 t346] rfl gl_ ?_; (with_reducible refine (laws_szMarkS.calls _ _ l2 t346 t347 _ ?side1 ?side2 A9.out).mono ?_); (case side1 => exact Kd.C_below (Kd.C_below HR2.out HB.out) lt_); (case side2 => exact HC2.out); rintro e w' ⟨rfl, ⟨nd, rfl⟩⟩; refine ⟨_, rfl, ?_⟩; have hcz17_0 := blk_cell BK345.out 0; have hcz17_1 := blk_cell BK345.out 1; have hfz17_0 := blk_frozen BK345.out 0; have hfz17_1 := blk_frozen BK345.out 1) | ((with_reducible refine gate_callee (f := 15) rfl ?_); refine goesL_ (some 27) rfl rfl Tryd.func15 (by kernel_rfl) rfl #[.agg #[.int .i64 a3_0, .slice A3_1 l3_1.length c3_1], .int .i64 t347] rfl gl_ ?_; (with_reducible refine (laws_szProof.calls a3_0 _ _ l3_1 t347 t348 _ ?side1 ?side2 A13.out).mono ?_); (case side1 => repeat (first | exact (Kd.C_below HR3_1.out (at_ HB.out)) | (with_reducible refine Kd.C_alloc ?_ _) | (with_reducible refine Kd.C_drewN ?_ _) | (with_reducible refine Kd.C_drew ?_))); (case side2 => exact HC3_1.out); rintro e w18 ⟨rfl, hb⟩; refine ⟨_, rfl, ?_⟩; replace HB := mk_ (below_step (at_ HB.out) hb); (try clear BK345); (try clear hb); (try clear hb2); (try clear hk); (try clear hi)))
  go_ret
  exact ⟨er_, at_ HB.out⟩
 rw [if_neg c14] at H
 have c14b0 : decide (t348 < 0) = false := decide_eq_false c14
 clear c14
 replace H := Option.bind_eq_some_iff.mp H
 obtain ⟨t349, A190, H⟩ := H
 try dsimp only at H
 have A19 := mk_ A190
 clear A190
 replace H := Option.bind_eq_some_iff.mp H
 obtain ⟨t352, A200, H⟩ := H
 try dsimp only at H
 have A20 := mk_ A200
 clear A200
 replace H := Option.bind_eq_some_iff.mp H
 obtain ⟨⟨t355, t356⟩, A210, H⟩ := H
 try dsimp only at H
 have A21 := mk_ A210
 clear A210
 replace H := Option.bind_eq_some_iff.mp H
 obtain ⟨t359, A220, H⟩ := H
 try dsimp only at H
 have A22 := mk_ A220
 clear A220
 replace H := Option.bind_eq_some_iff.mp H
 obtain ⟨t360, A230, H⟩ := H
 try dsimp only at H
 have A23 := mk_ A230
 clear A230
 replace H := Option.bind_eq_some_iff.mp H
 obtain ⟨t363, A240, H⟩ := H
 try dsimp only at H
 have A24 := mk_ A240
 clear A240
 replace H := Option.bind_eq_some_iff.mp H
 obtain ⟨⟨t366, t367⟩, A250, H⟩ := H
 try dsimp only at H
 have A25 := mk_ A250
 clear A250
 replace H := Option.bind_eq_some_iff.mp H
 obtain ⟨t371, A260, H⟩ := H
 try dsimp only at H
 have A26 := mk_ A260
 clear A260
 by_cases c27 : t371.toList = t359.toList
 rotate_left
 ·rw [if_neg c27] at H
  have c27b0 : (t371.toList == t359.toList) = false := beq_eq_false_iff_ne.mpr c27
  have c27b1 : (t371.toList != t359.toList) = true := bne_iff_ne.mpr c27
  obtain rfl := Option.some.inj H
  go_enter Tryd.func4, Tryd.ntmps4
  try go_wp2_with (first | ((with_reducible refine gate_dst (N := 7) rfl ?_); refine box_event ?hg (N := 7) ?hd (cs := #[.int .i64 a3_0, .slice A3_1 l3_1.length c3_1]) (t := 40) ?hr ?_; (case hd => rfl); (case hg => rfl); (case hr => first | (go_simp; done) | (go_simp; rfl)); intro gb345 hg w158 hbox hb; have BK345 := mk_ (hbox); have GW345 := mk_ (gb_ hg HB.out); have GE345 := mk_ (gb_ hg HB.out); replace HB := mk_ (below_step (below_at HB.out) hb); clear hb hbox hg) | ((with_reducible refine gate_callee (f := 13) rfl ?_); refine goesL_ (some 17) rfl rfl Tryd.func13 (by kernel_rfl) rfl #[.slice A1 l1.length c1, .int .i64 1048576] rfl gl_ ?_; (with_reducible refine (laws_szClaimS.calls k _ _ l1 1048576 t346 _ ?side1 ?side2 A5.out).mono ?_); (case side1 => exact Kd.C_below (Kd.C_below HR1.out HB.out) lt_); (case side2 => exact HC1.out); rintro e w159 ⟨rfl, hb⟩; refine ⟨_, rfl, ?_⟩; replace BK345 := mk_ (blk_at BK345.out hb); replace HB := mk_ (below_step (at_ HB.out) hb); (try clear hb); (try clear hb2); (try clear hk); (try clear hi)) | ((with_reducible refine gate_callee (f := 14) rfl ?_); refine goesL_ (some 22) rfl rfl Tryd.func14 (by kernel_rfl) rfl #[.slice A2 l2.length c2, .int .i64 t346] rfl gl_ ?_; (with_reducible refine (laws_szMarkS.calls _ _ l2 t346 t347 _ ?side1 ?side2 A9.out).mono ?_); (case side1 => exact Kd.C_below (Kd.C_below HR2.out HB.out) lt_); (case side2 => exact HC2.out); rintro e w' ⟨rfl, ⟨nd, rfl⟩⟩; refine ⟨_, rfl, ?_⟩; (try (rw [drewN_self w159]; generalize hq_ : World.drewN w159 _ = w159; have n0_ : Aside0 (w159.heap[gb345]? = some (.cells #[.int .i64 a3_0, .slice A3_1 l3_1.length c3_1] 40 (0, 0))) := ⟨by rw [← hq_]; exact (bk_ BK345.out)⟩; have n1_ : Aside0 (Below w.heap.size w w159) := ⟨by rw [← hq_]; exact (at_ HB.out)⟩; clear BK345 HB hq_; have BK345 := n0_; have HB := n1_; clear n0_ n1_)); have hcz160_0 := blk_cell BK345.out 0; have hcz160_1 := blk_cell BK345.out 1; have hfz160_0 := blk_frozen BK345.out 0; have hfz160_1 := blk_frozen BK345.out 1) | ((with_reducible refine gate_callee (f := 15) rfl ?_); refine goesL_ (some 27) rfl rfl Tryd.func15 (by kernel_rfl) rfl #[.agg #[.int .i64 a3_0, .slice A3_1 l3_1.length c3_1], .int .i64 t347] rfl gl_ ?_; (with_reducible refine (laws_szProof.calls a3_0 _ _ l3_1 t347 t348 _ ?side1 ?side2 A13.out).mono ?_); (case side1 => exact Kd.C_below (Kd.C_below HR3_1.out HB.out) lt_); (case side2 => exact HC3_1.out); rintro e w161 ⟨rfl, hb⟩; refine ⟨_, rfl, ?_⟩; replace BK345 := mk_ (blk_at BK345.out hb); replace HB := mk_ (below_step (at_ HB.out) hb); (try clear hb); (try clear hb2); (try clear hk); (try clear hi)))
  replace BK345 := mk_ (blk_drew BK345.out)
  replace HB := mk_ (below_drew1 HB.out)
  refine start_ (n := 9) (S := fun w' => w'.cell? ⟨gb345, 0, none⟩ = some (.int .i64 a3_0) ∧ w'.cell? ⟨gb345, 1, none⟩ = some (.slice A3_1 l3_1.length c3_1)) (ds := []) #[false, false, false, false, false, false, false, false, false] (by kernel_rfl) rfl rfl ⟨(blk_cell BK345.out 0).trans rfl, (blk_cell BK345.out 1).trans rfl⟩ (fun hHeld => ?_); refine with_tabW laws_FnExactProofText.tab11 laws_FnExactProofText.bits11 (fun HT_ HW_ => ?_)
  generalize w161.drew = w162 at BK345 HB hHeld ⊢
  refine pure_ (i := 0) (N := some 30) (v := ?_) (a' := ?_) #[true, false, false, false, false, false, false, false, false] rfl rfl (any_of HT_.out (by kernel_rfl)) (fun _ _ _ h => h) (Or.inl ⟨by rfl, ?_⟩) ?_ ?_
  rotate_left
  ·intro w'
   go_simp
   with_reducible rfl
  rotate_left
  ·simp only [Act.put, z0_, z1_, z2_, i64_w, i32_w]
   rfl
  refine pure_ (i := 1) (N := some 31) (v := ?_) (a' := ?_) #[true, true, false, false, false, false, false, false, false] rfl rfl (any_of HT_.out (by kernel_rfl)) (fun _ _ _ h => h) (Or.inl ⟨by rfl, ?_⟩) ?_ ?_
  rotate_left
  ·intro w'
   go_simp
   with_reducible rfl
  rotate_left
  ·simp only [Act.put, z0_, z1_, z2_, i64_w, i32_w]
   rfl
  refine pure_ (i := 3) (N := some 33) (v := ?_) (a' := ?_) #[true, true, false, true, false, false, false, false, false] rfl rfl (any_of HT_.out (by kernel_rfl)) (fun _ _ _ h => h) (Or.inl ⟨by rfl, ?_⟩) ?_ ?_
  rotate_left
  ·intro w'
   go_simp
   with_reducible rfl
  rotate_left
  ·simp only [Act.put, z0_, z1_, z2_, i64_w, i32_w]
   rfl
  refine take_ (i := 5) (N := some 35) (v := ?_) (a' := ?_) #[true, true, false, true, false, true, false, false, false] rfl rfl (take_ofW HT_.out HW_.out (by kernel_rfl)) (fun _ _ _ h => h) (Or.inl ⟨by rfl, ?_⟩) hHeld ?_ ?_
  rotate_left
  ·rintro w' ⟨s0, s1⟩
   go_simp
   with_reducible rfl
  rotate_left
  ·simp only [Act.put, z0_, z1_, z2_, i64_w, i32_w]
   rfl
  refine one_ (i := 2) (N := some 32) #[true, true, true, true, false, true, false, false, false] rfl rfl (one_of HT_.out (by kernel_rfl)) (by decide) (fun K hK => ?_)
  refine goes_ Tryd.func16 (by kernel_rfl) rfl #[.slice A1 l1.length c1] (by rfl) rfl rfl gl_ ?_
  with_reducible refine (laws_toClaimS.calls k _ _ l1 t349 _ ?side1 ?side2 A19.out).mono ?_
  (case side1 => exact Kd.C_below (Kd.C_below HR1.out HB.out) lt_)
  (case side2 => exact HC1.out)
  rintro e w163 ⟨v350, rfl, ho0, hb⟩
  refine ⟨_, rfl, ?_⟩
  have HO351 := mk_ (Kd.S_lower ho0 (below_size (at_ HB.out)))
  replace BK345 := mk_ (blk_at BK345.out hb)
  replace HB := mk_ (below_step (at_ HB.out) hb)
  (try clear hb)
  (try clear hb2)
  (try clear hk)
  (try clear hi)
  (try clear ho0)
  refine hK.out _ _ ⟨(blk_cell BK345.out 0).trans rfl, (blk_cell BK345.out 1).trans rfl⟩ (fun hHeld => ?_)
  clear hK K
  refine norm_ (a' := ?_) ?_ ?_
  rotate_left
  ·show Act.put _ (some 32) _ = _
   simp only [Act.put, z0_, z1_, z2_, i64_w, i32_w]
   rfl
  refine one_ (i := 4) (N := some 34) #[true, true, true, true, true, true, false, false, false] rfl rfl (one_of HT_.out (by kernel_rfl)) (by decide) (fun K hK => ?_)
  refine goes_ Tryd.func17 (by kernel_rfl) rfl #[.slice A2 l2.length c2] (by rfl) rfl rfl gl_ ?_
  with_reducible refine (laws_toMarkS.calls k _ _ l2 t352 _ ?side1 ?side2 A20.out).mono ?_
  (case side1 => exact Kd.C_below (Kd.C_below HR2.out HB.out) lt_)
  (case side2 => exact HC2.out)
  rintro e w164 ⟨v353, rfl, ho0, hb⟩
  refine ⟨_, rfl, ?_⟩
  replace HO351 := mk_ (Kd.S_elder' (Kd.S_below HO351.out lt_) (Kd.R_base ho0) hb)
  have HO354 := mk_ (Kd.R_lower ho0 (below_size (at_ HB.out)))
  replace BK345 := mk_ (blk_at BK345.out hb)
  replace HB := mk_ (below_step (at_ HB.out) hb)
  (try clear hb)
  (try clear hb2)
  (try clear hk)
  (try clear hi)
  (try clear ho0)
  refine hK.out _ _ ⟨(blk_cell BK345.out 0).trans rfl, (blk_cell BK345.out 1).trans rfl⟩ (fun hHeld => ?_)
  clear hK K
  refine norm_ (a' := ?_) ?_ ?_
  rotate_left
  ·show Act.put _ (some 34) _ = _
   simp only [Act.put, z0_, z1_, z2_, i64_w, i32_w]
   rfl
  refine one_ (i := 6) (N := some 36) #[true, true, true, true, true, true, true, false, false] rfl rfl (one_of HT_.out (by kernel_rfl)) (by decide) (fun K hK => ?_)
  refine goes_ Tryd.func18 (by kernel_rfl) rfl #[.agg #[.int .i64 a3_0, .slice A3_1 l3_1.length c3_1]] (by rfl) rfl rfl gl_ ?_
  with_reducible refine (laws_toProof.calls k a3_0 _ _ l3_1 t355 t356 _ ?side1 ?side2 A21.out).mono ?_
  (case side1 => exact Kd.C_below (Kd.C_below HR3_1.out HB.out) lt_)
  (case side2 => exact HC3_1.out)
  rintro e w165 ⟨v357, rfl, ho0, hb⟩
  refine ⟨_, rfl, ?_⟩
  replace HO351 := mk_ (Kd.S_below (Kd.S_below HO351.out lt_) hb)
  replace HO354 := mk_ (Kd.R_below (Kd.R_below HO354.out lt_) hb)
  have HO358 := mk_ (Kd.R_lower ho0 (below_size (at_ HB.out)))
  replace BK345 := mk_ (blk_at BK345.out hb)
  replace HB := mk_ (below_step (at_ HB.out) hb)
  (try clear hb)
  (try clear hb2)
  (try clear hk)
  (try clear hi)
  (try clear ho0)
  obtain ⟨Ao166, co166, eo166⟩ := Kd.S_slice HO351.out
  (first | subst eo166 | (injection eo166 with f1_ f2_ f3_; have f4_ := f1_.symm; have f5_ := f3_.symm; clear f1_ f2_ f3_; subst f4_; subst f5_))
  obtain ⟨Ao167, co167, eo167⟩ := Kd.R_slice HO354.out
  (first | subst eo167 | (injection eo167 with f1_ f2_ f3_; have f4_ := f1_.symm; have f5_ := f3_.symm; clear f1_ f2_ f3_; subst f4_; subst f5_))
  obtain ⟨Ao168, co168, eo168⟩ := Kd.R_slice HO358.out
  (first | subst eo168 | (injection eo168 with f1_ f2_ f3_; have f4_ := f1_.symm; have f5_ := f3_.symm; clear f1_ f2_ f3_; subst f4_; subst f5_))
  refine hK.out _ _ ⟨(blk_cell BK345.out 0).trans rfl, (blk_cell BK345.out 1).trans rfl⟩ (fun hHeld => ?_)
  clear hK K
  refine norm_ (a' := ?_) ?_ ?_
  rotate_left
  ·show Act.put _ (some 36) _ = _
   simp only [Act.put, z0_, z1_, z2_, i64_w, i32_w]
   rfl
  refine one_ (i := 7) (N := some 37) #[true, true, true, true, true, true, true, true, false] rfl rfl (one_of HT_.out (by kernel_rfl)) (by decide) (fun K hK => ?_)
  refine goes_ Tryd.func9 (by kernel_rfl) rfl #[.int .i64 a0, .slice Ao166 t349.length co166, .slice Ao167 t352.length co167, .agg #[.int .i64 t355, .slice Ao168 t356.length co168]] (by rfl) rfl rfl gl_ ?_
  with_reducible refine (spec_ProofText.calls k a0 _ _ t349 _ _ t352 t355 _ _ t356 t359 _ ?side1 ?side2 ?side3 ?side4 ?side5 ?side6 A22.out).mono ?_
  (case side1 => exact Kd.C_below (Kd.S_reads' HO351.out).2.2 lt_)
  (case side2 => exact (Kd.S_reads' HO351.out).2.1)
  (case side3 => exact Kd.C_below (Kd.R_reads' HO354.out).2.2 lt_)
  (case side4 => exact (Kd.R_reads' HO354.out).2.1)
  (case side5 => exact Kd.C_below (Kd.R_reads' HO358.out).2.2 lt_)
  (case side6 => exact (Kd.R_reads' HO358.out).2.1)
  rintro e w169 ⟨rfl, hb⟩
  refine ⟨_, rfl, ?_⟩
  replace HO351 := mk_ (Kd.S_below (Kd.S_below HO351.out lt_) hb)
  replace HO354 := mk_ (Kd.R_below (Kd.R_below HO354.out lt_) hb)
  replace HO358 := mk_ (Kd.R_below (Kd.R_below HO358.out lt_) hb)
  replace BK345 := mk_ (blk_at BK345.out hb)
  replace HB := mk_ (below_step (at_ HB.out) hb)
  (try clear hb)
  (try clear hb2)
  (try clear hk)
  (try clear hi)
  refine hK.out _ _ ⟨(blk_cell BK345.out 0).trans rfl, (blk_cell BK345.out 1).trans rfl⟩ (fun hHeld => ?_)
  clear hK K
  refine norm_ (a' := ?_) ?_ ?_
  rotate_left
  ·show Act.put _ (some 37) _ = _
   simp only [Act.put, z0_, z1_, z2_, i64_w, i32_w]
   rfl
  refine pure_ (i := 8) (N := some 10) (v := ?_) (a' := ?_) #[true, true, true, true, true, true, true, true, true] rfl rfl (any_of HT_.out (by kernel_rfl)) (fun _ _ _ h => h) (Or.inl ⟨by rfl, ?_⟩) ?_ ?_
  rotate_left
  ·intro w'
   go_simp
   with_reducible rfl
  rotate_left
  ·simp only [Act.put, z0_, z1_, z2_, i64_w, i32_w]
   rfl
  refine done_ (done_of HT_.out (by kernel_rfl)) ?_
  try go_wp2_with (first | ((with_reducible refine gate_callee (f := 16) rfl ?_); refine goesL_ (some 39) rfl rfl Tryd.func16 (by kernel_rfl) rfl #[.slice A1 l1.length c1] rfl gl_ ?_; (with_reducible refine (laws_toClaimS.calls k _ _ l1 t360 _ ?side1 ?side2 A23.out).mono ?_); (case side1 => exact Kd.C_below (Kd.C_below HR1.out HB.out) lt_); (case side2 => exact HC1.out); rintro e w170 ⟨v361, rfl, ho0, hb⟩; refine ⟨_, rfl, ?_⟩; replace HO358 := mk_ (Kd.R_below (Kd.R_below HO358.out lt_) hb); have HO362 := mk_ (Kd.S_lower (Kd.S_new' (Kd.S_new' ho0 (Kd.S_lt (Kd.S_below HO351.out lt_))) (Kd.R_lt (Kd.R_below HO354.out lt_))) (below_size (at_ HB.out))); replace HO354 := mk_ (Kd.R_below (Kd.R_below HO354.out lt_) hb); replace BK345 := mk_ (blk_at BK345.out hb); replace HB := mk_ (below_step (at_ HB.out) hb); (try clear HO351); (try clear hb); (try clear hb2); (try clear hk); (try clear hi); (try clear ho0)) | ((with_reducible refine gate_callee (f := 17) rfl ?_); refine goesL_ (some 41) rfl rfl Tryd.func17 (by kernel_rfl) rfl #[.slice A2 l2.length c2] rfl gl_ ?_; (with_reducible refine (laws_toMarkS.calls k _ _ l2 t363 _ ?side1 ?side2 A24.out).mono ?_); (case side1 => exact Kd.C_below (Kd.C_below HR2.out HB.out) lt_); (case side2 => exact HC2.out); rintro e w171 ⟨v364, rfl, ho0, hb⟩; refine ⟨_, rfl, ?_⟩; replace HO358 := mk_ (Kd.R_below (Kd.R_below HO358.out lt_) hb); replace HO362 := mk_ (Kd.S_elder' (Kd.S_below HO362.out lt_) (Kd.R_base ho0) hb); have HO365 := mk_ (Kd.R_lower (Kd.R_new' ho0 (Kd.R_lt (Kd.R_below HO354.out lt_))) (below_size (at_ HB.out))); replace BK345 := mk_ (blk_at BK345.out hb); replace HB := mk_ (below_step (at_ HB.out) hb); (try clear HO351 HO354); (try clear hb); (try clear hb2); (try clear hk); (try clear hi); (try clear ho0); have hcz172_0 := blk_cell BK345.out 0; have hcz172_1 := blk_cell BK345.out 1; have hfz172_0 := blk_frozen BK345.out 0; have hfz172_1 := blk_frozen BK345.out 1) | ((with_reducible refine gate_callee (f := 18) rfl ?_); refine goesL_ (some 43) rfl rfl Tryd.func18 (by kernel_rfl) rfl #[.agg #[.int .i64 a3_0, .slice A3_1 l3_1.length c3_1]] rfl gl_ ?_; (with_reducible refine (laws_toProof.calls k a3_0 _ _ l3_1 t366 t367 _ ?side1 ?side2 A25.out).mono ?_); (case side1 => exact Kd.C_below (Kd.C_below HR3_1.out HB.out) lt_); (case side2 => exact HC3_1.out); rintro e w173 ⟨v368, rfl, ho0, hb⟩; refine ⟨_, rfl, ?_⟩; replace HO362 := mk_ (Kd.S_below (Kd.S_below HO362.out lt_) hb); replace HO365 := mk_ (Kd.R_below (Kd.R_below HO365.out lt_) hb); have HO369 := mk_ (Kd.R_lower (Kd.R_new' ho0 (Kd.R_lt (Kd.R_below HO358.out lt_))) (below_size (at_ HB.out))); replace BK345 := mk_ (blk_at BK345.out hb); replace HB := mk_ (below_step (at_ HB.out) hb); (try clear HO351 HO354 HO358); (try clear hb); (try clear hb2); (try clear hk); (try clear hi); (try clear ho0)) | ((with_reducible refine gate_dst (N := 13) rfl ?_); refine box_event ?hg (N := 13) ?hd (cs := #[.int .i64 0, .slice none 0 0]) (t := 27) ?hr ?_; (case hd => rfl); (case hg => rfl); (case hr => first | (go_simp; done) | (go_simp; rfl)); intro gb370 hg w174 hbox hb; replace HO362 := mk_ (Kd.S_below (Kd.S_below HO362.out lt_) hb); replace HO365 := mk_ (Kd.R_below (Kd.R_below HO365.out lt_) hb); replace HO369 := mk_ (Kd.R_below (Kd.R_below HO369.out lt_) hb); have BK370 := mk_ (hbox); have GW370 := mk_ ((by rw [hg]; exact (below_size (at_ HB.out)) : w.heap.size ≤ gb370)); have GE370 := mk_ ((by rw [hg]; exact (below_size (at_ HB.out)) : w.heap.size ≤ gb370)); replace HB := mk_ (below_step (at_ HB.out) hb); have NB345_370 := mk_ ((by rw [hg]; exact Nat.ne_of_lt (blk_lt (g := gb345) (o := .cells #[.int .i64 a3_0, .slice A3_1 l3_1.length c3_1] 40 (0, 0)) (bk_ BK345.out)) : gb345 ≠ gb370)); have NB370_345 := mk_ ((by rw [hg]; exact Nat.ne_of_gt (blk_lt (g := gb345) (o := .cells #[.int .i64 a3_0, .slice A3_1 l3_1.length c3_1] 40 (0, 0)) (bk_ BK345.out)) : gb370 ≠ gb345)); (try clear HO351 HO354 HO358 BK345); clear hb hbox hg; have hnb175 := NB370_345.out; have hnc175 := NB345_370.out; have hcz176_0 := blk_cell BK370.out 0; have hcz176_1 := blk_cell BK370.out 1; have hfz176_0 := blk_frozen BK370.out 0; have hfz176_1 := blk_frozen BK370.out 1; obtain ⟨Ao177, co177, eo177⟩ := Kd.R_slice HO369.out; subst eo177; obtain ⟨Ao178, co178, eo178⟩ := Kd.S_slice HO362.out; subst eo178; obtain ⟨Ao179, co179, eo179⟩ := Kd.R_slice HO365.out; subst eo179) | ((with_reducible refine gate_callee (f := 8) rfl ?_); refine goesL_ (some 48) rfl rfl Tryd.func8 (by kernel_rfl) rfl #[.int .i64 a0, .slice Ao178 t360.length co178, .slice Ao179 t363.length co179, .agg #[.int .i64 t366, .slice Ao177 t367.length co177]] rfl gl_ ?_; (with_reducible refine (impl_ProofText.calls k a0 _ _ t360 _ _ t363 t366 _ _ t367 t371 _ ?side1 ?side2 ?side3 ?side4 ?side5 ?side6 A26.out).mono ?_); (case side1 => refine (Kd.S_reads' (e := 79) (base := w.heap.size) (ok := fun k_ => (((True ∧ some k_ ≠ (.slice Ao166 t349.length co166 : Value).ownBlock) ∧ some k_ ≠ (.slice Ao167 t352.length co167 : Value).ownBlock) ∧ some k_ ≠ (.slice Ao179 t363.length co179 : Value).ownBlock)) (n := t360.length) (c := co178) ?_).2.2; exact (by (with_reducible repeat (first | apply Kd.S_alloc | apply Kd.S_drewN | apply Kd.S_drew)); exact (Kd.S_mono (Kd.S_far (p := ⟨gb370, 1, none⟩) (Kd.S_far (p := ⟨gb370, 0, none⟩) (Kd.S_types HO362.out BK370.out (by decide)) (fun _ hk => hk.2) (.int .i64 t366)) (fun _ hk => hk.2) (.slice Ao177 t367.length co177)) (fun _ h_ => h_.1)))); (case side2 => exact (Kd.S_reads' HO362.out).2.1); (case side3 => refine (Kd.R_reads' (e := 82) (base := w.heap.size) (ok := fun k_ => (True ∧ some k_ ≠ (.slice Ao167 t352.length co167 : Value).ownBlock)) (n := t363.length) (c := co179) ?_).2.2; exact (by (with_reducible repeat (first | apply Kd.R_alloc | apply Kd.R_drewN | apply Kd.R_drew)); exact (Kd.R_mono (Kd.R_far (p := ⟨gb370, 1, none⟩) (Kd.R_far (p := ⟨gb370, 0, none⟩) (Kd.R_types HO365.out BK370.out (by decide)) (fun _ hk => hk.2) (.int .i64 t366)) (fun _ hk => hk.2) (.slice Ao177 t367.length co177)) (fun _ h_ => h_.1)))); (case side4 => exact (Kd.R_reads' HO365.out).2.1); (case side5 => refine (Kd.R_reads' (e := 68) (base := w.heap.size) (ok := fun k_ => (True ∧ some k_ ≠ (.slice Ao168 t356.length co168 : Value).ownBlock)) (n := t367.length) (c := co177) ?_).2.2; exact (by (with_reducible repeat (first | apply Kd.R_alloc | apply Kd.R_drewN | apply Kd.R_drew)); exact (Kd.R_mono (Kd.R_far (p := ⟨gb370, 1, none⟩) (Kd.R_far (p := ⟨gb370, 0, none⟩) (Kd.R_types HO369.out BK370.out (by decide)) (fun _ hk => hk.2) (.int .i64 t366)) (fun _ hk => hk.2) (.slice Ao177 t367.length co177)) (fun _ h_ => h_.1)))); (case side6 => exact (Kd.R_reads' HO369.out).2.1); rintro e w180 ⟨rfl, hb⟩; refine ⟨_, rfl, ?_⟩; replace HB := mk_ (below_step (at_ HB.out) hb); (try clear HO351 HO354 HO358 HO362 HO365 HO369 BK345 BK370); (try clear hb); (try clear hb2); (try clear hk); (try clear hi)))
  go_ret
  exact ⟨er_, at_ HB.out⟩
 rw [if_pos c27] at H
 have c27b0 : (t371.toList == t359.toList) = true := beq_iff_eq.mpr c27
 have c27b1 : (t371.toList != t359.toList) = false := bne_eq_false_iff_eq.mpr c27
 clear c27
 replace H := Option.bind_eq_some_iff.mp H
 obtain ⟨t372, A280, H⟩ := H
 try dsimp only at H
 have A28 := mk_ A280
 clear A280
 replace H := Option.bind_eq_some_iff.mp H
 obtain ⟨t375, A290, H⟩ := H
 try dsimp only at H
 have A29 := mk_ A290
 clear A290
 by_cases c30 : t375 = true
 rotate_left
 ·replace c30 := Bool.eq_false_iff.mpr c30
  subst c30
  rw [if_neg (show ¬ (false = true) by decide)] at H
  obtain rfl := Option.some.inj H
  go_enter Tryd.func4, Tryd.ntmps4
  try go_wp2_with (first | ((with_reducible refine gate_dst (N := 7) rfl ?_); refine box_event ?hg (N := 7) ?hd (cs := #[.int .i64 a3_0, .slice A3_1 l3_1.length c3_1]) (t := 40) ?hr ?_; (case hd => rfl); (case hg => rfl); (case hr => first | (go_simp; done) | (go_simp; rfl)); intro gb345 hg w132 hbox hb; have BK345 := mk_ (hbox); have GW345 := mk_ (gb_ hg HB.out); have GE345 := mk_ (gb_ hg HB.out); replace HB := mk_ (below_step (below_at HB.out) hb); clear hb hbox hg) | ((with_reducible refine gate_callee (f := 13) rfl ?_); refine goesL_ (some 17) rfl rfl Tryd.func13 (by kernel_rfl) rfl #[.slice A1 l1.length c1, .int .i64 1048576] rfl gl_ ?_; (with_reducible refine (laws_szClaimS.calls k _ _ l1 1048576 t346 _ ?side1 ?side2 A5.out).mono ?_); (case side1 => exact Kd.C_below (Kd.C_below HR1.out HB.out) lt_); (case side2 => exact HC1.out); rintro e w133 ⟨rfl, hb⟩; refine ⟨_, rfl, ?_⟩; replace BK345 := mk_ (blk_at BK345.out hb); replace HB := mk_ (below_step (at_ HB.out) hb); (try clear hb); (try clear hb2); (try clear hk); (try clear hi)) | ((with_reducible refine gate_callee (f := 14) rfl ?_); refine goesL_ (some 22) rfl rfl Tryd.func14 (by kernel_rfl) rfl #[.slice A2 l2.length c2, .int .i64 t346] rfl gl_ ?_; (with_reducible refine (laws_szMarkS.calls _ _ l2 t346 t347 _ ?side1 ?side2 A9.out).mono ?_); (case side1 => exact Kd.C_below (Kd.C_below HR2.out HB.out) lt_); (case side2 => exact HC2.out); rintro e w' ⟨rfl, ⟨nd, rfl⟩⟩; refine ⟨_, rfl, ?_⟩; (try (rw [drewN_self w133]; generalize hq_ : World.drewN w133 _ = w133; have n0_ : Aside0 (w133.heap[gb345]? = some (.cells #[.int .i64 a3_0, .slice A3_1 l3_1.length c3_1] 40 (0, 0))) := ⟨by rw [← hq_]; exact (bk_ BK345.out)⟩; have n1_ : Aside0 (Below w.heap.size w w133) := ⟨by rw [← hq_]; exact (at_ HB.out)⟩; clear BK345 HB hq_; have BK345 := n0_; have HB := n1_; clear n0_ n1_)); have hcz134_0 := blk_cell BK345.out 0; have hcz134_1 := blk_cell BK345.out 1; have hfz134_0 := blk_frozen BK345.out 0; have hfz134_1 := blk_frozen BK345.out 1) | ((with_reducible refine gate_callee (f := 15) rfl ?_); refine goesL_ (some 27) rfl rfl Tryd.func15 (by kernel_rfl) rfl #[.agg #[.int .i64 a3_0, .slice A3_1 l3_1.length c3_1], .int .i64 t347] rfl gl_ ?_; (with_reducible refine (laws_szProof.calls a3_0 _ _ l3_1 t347 t348 _ ?side1 ?side2 A13.out).mono ?_); (case side1 => exact Kd.C_below (Kd.C_below HR3_1.out HB.out) lt_); (case side2 => exact HC3_1.out); rintro e w135 ⟨rfl, hb⟩; refine ⟨_, rfl, ?_⟩; replace BK345 := mk_ (blk_at BK345.out hb); replace HB := mk_ (below_step (at_ HB.out) hb); (try clear hb); (try clear hb2); (try clear hk); (try clear hi)))
  replace BK345 := mk_ (blk_drew BK345.out)
  replace HB := mk_ (below_drew1 HB.out)
  refine start_ (n := 9) (S := fun w' => w'.cell? ⟨gb345, 0, none⟩ = some (.int .i64 a3_0) ∧ w'.cell? ⟨gb345, 1, none⟩ = some (.slice A3_1 l3_1.length c3_1)) (ds := []) #[false, false, false, false, false, false, false, false, false] (by kernel_rfl) rfl rfl ⟨(blk_cell BK345.out 0).trans rfl, (blk_cell BK345.out 1).trans rfl⟩ (fun hHeld => ?_); refine with_tabW laws_FnExactProofText.tab11 laws_FnExactProofText.bits11 (fun HT_ HW_ => ?_)
  generalize w135.drew = w136 at BK345 HB hHeld ⊢
  refine pure_ (i := 0) (N := some 30) (v := ?_) (a' := ?_) #[true, false, false, false, false, false, false, false, false] rfl rfl (any_of HT_.out (by kernel_rfl)) (fun _ _ _ h => h) (Or.inl ⟨by rfl, ?_⟩) ?_ ?_
  rotate_left
  ·intro w'
   go_simp
   with_reducible rfl
  rotate_left
  ·simp only [Act.put, z0_, z1_, z2_, i64_w, i32_w]
   rfl
  refine pure_ (i := 1) (N := some 31) (v := ?_) (a' := ?_) #[true, true, false, false, false, false, false, false, false] rfl rfl (any_of HT_.out (by kernel_rfl)) (fun _ _ _ h => h) (Or.inl ⟨by rfl, ?_⟩) ?_ ?_
  rotate_left
  ·intro w'
   go_simp
   with_reducible rfl
  rotate_left
  ·simp only [Act.put, z0_, z1_, z2_, i64_w, i32_w]
   rfl
  refine pure_ (i := 3) (N := some 33) (v := ?_) (a' := ?_) #[true, true, false, true, false, false, false, false, false] rfl rfl (any_of HT_.out (by kernel_rfl)) (fun _ _ _ h => h) (Or.inl ⟨by rfl, ?_⟩) ?_ ?_
  rotate_left
  ·intro w'
   go_simp
   with_reducible rfl
  rotate_left
  ·simp only [Act.put, z0_, z1_, z2_, i64_w, i32_w]
   rfl
  refine take_ (i := 5) (N := some 35) (v := ?_) (a' := ?_) #[true, true, false, true, false, true, false, false, false] rfl rfl (take_ofW HT_.out HW_.out (by kernel_rfl)) (fun _ _ _ h => h) (Or.inl ⟨by rfl, ?_⟩) hHeld ?_ ?_
  rotate_left
  ·rintro w' ⟨s0, s1⟩
   go_simp
   with_reducible rfl
  rotate_left
  ·simp only [Act.put, z0_, z1_, z2_, i64_w, i32_w]
   rfl
  refine one_ (i := 2) (N := some 32) #[true, true, true, true, false, true, false, false, false] rfl rfl (one_of HT_.out (by kernel_rfl)) (by decide) (fun K hK => ?_)
  refine goes_ Tryd.func16 (by kernel_rfl) rfl #[.slice A1 l1.length c1] (by rfl) rfl rfl gl_ ?_
  with_reducible refine (laws_toClaimS.calls k _ _ l1 t349 _ ?side1 ?side2 A19.out).mono ?_
  (case side1 => exact Kd.C_below (Kd.C_below HR1.out HB.out) lt_)
  (case side2 => exact HC1.out)
  rintro e w137 ⟨v350, rfl, ho0, hb⟩
  refine ⟨_, rfl, ?_⟩
  have HO351 := mk_ (Kd.S_lower ho0 (below_size (at_ HB.out)))
  replace BK345 := mk_ (blk_at BK345.out hb)
  replace HB := mk_ (below_step (at_ HB.out) hb)
  (try clear hb)
  (try clear hb2)
  (try clear hk)
  (try clear hi)
  (try clear ho0)
  refine hK.out _ _ ⟨(blk_cell BK345.out 0).trans rfl, (blk_cell BK345.out 1).trans rfl⟩ (fun hHeld => ?_)
  clear hK K
  refine norm_ (a' := ?_) ?_ ?_
  rotate_left
  ·show Act.put _ (some 32) _ = _
   simp only [Act.put, z0_, z1_, z2_, i64_w, i32_w]
   rfl
  refine one_ (i := 4) (N := some 34) #[true, true, true, true, true, true, false, false, false] rfl rfl (one_of HT_.out (by kernel_rfl)) (by decide) (fun K hK => ?_)
  refine goes_ Tryd.func17 (by kernel_rfl) rfl #[.slice A2 l2.length c2] (by rfl) rfl rfl gl_ ?_
  with_reducible refine (laws_toMarkS.calls k _ _ l2 t352 _ ?side1 ?side2 A20.out).mono ?_
  (case side1 => exact Kd.C_below (Kd.C_below HR2.out HB.out) lt_)
  (case side2 => exact HC2.out)
  rintro e w138 ⟨v353, rfl, ho0, hb⟩
  refine ⟨_, rfl, ?_⟩
  replace HO351 := mk_ (Kd.S_elder' (Kd.S_below HO351.out lt_) (Kd.R_base ho0) hb)
  have HO354 := mk_ (Kd.R_lower ho0 (below_size (at_ HB.out)))
  replace BK345 := mk_ (blk_at BK345.out hb)
  replace HB := mk_ (below_step (at_ HB.out) hb)
  (try clear hb)
  (try clear hb2)
  (try clear hk)
  (try clear hi)
  (try clear ho0)
  refine hK.out _ _ ⟨(blk_cell BK345.out 0).trans rfl, (blk_cell BK345.out 1).trans rfl⟩ (fun hHeld => ?_)
  clear hK K
  refine norm_ (a' := ?_) ?_ ?_
  rotate_left
  ·show Act.put _ (some 34) _ = _
   simp only [Act.put, z0_, z1_, z2_, i64_w, i32_w]
   rfl
  refine one_ (i := 6) (N := some 36) #[true, true, true, true, true, true, true, false, false] rfl rfl (one_of HT_.out (by kernel_rfl)) (by decide) (fun K hK => ?_)
  refine goes_ Tryd.func18 (by kernel_rfl) rfl #[.agg #[.int .i64 a3_0, .slice A3_1 l3_1.length c3_1]] (by rfl) rfl rfl gl_ ?_
  with_reducible refine (laws_toProof.calls k a3_0 _ _ l3_1 t355 t356 _ ?side1 ?side2 A21.out).mono ?_
  (case side1 => exact Kd.C_below (Kd.C_below HR3_1.out HB.out) lt_)
  (case side2 => exact HC3_1.out)
  rintro e w139 ⟨v357, rfl, ho0, hb⟩
  refine ⟨_, rfl, ?_⟩
  replace HO351 := mk_ (Kd.S_below (Kd.S_below HO351.out lt_) hb)
  replace HO354 := mk_ (Kd.R_below (Kd.R_below HO354.out lt_) hb)
  have HO358 := mk_ (Kd.R_lower ho0 (below_size (at_ HB.out)))
  replace BK345 := mk_ (blk_at BK345.out hb)
  replace HB := mk_ (below_step (at_ HB.out) hb)
  (try clear hb)
  (try clear hb2)
  (try clear hk)
  (try clear hi)
  (try clear ho0)
  obtain ⟨Ao140, co140, eo140⟩ := Kd.S_slice HO351.out
  (first | subst eo140 | (injection eo140 with f1_ f2_ f3_; have f4_ := f1_.symm; have f5_ := f3_.symm; clear f1_ f2_ f3_; subst f4_; subst f5_))
  obtain ⟨Ao141, co141, eo141⟩ := Kd.R_slice HO354.out
  (first | subst eo141 | (injection eo141 with f1_ f2_ f3_; have f4_ := f1_.symm; have f5_ := f3_.symm; clear f1_ f2_ f3_; subst f4_; subst f5_))
  obtain ⟨Ao142, co142, eo142⟩ := Kd.R_slice HO358.out
  (first | subst eo142 | (injection eo142 with f1_ f2_ f3_; have f4_ := f1_.symm; have f5_ := f3_.symm; clear f1_ f2_ f3_; subst f4_; subst f5_))
  refine hK.out _ _ ⟨(blk_cell BK345.out 0).trans rfl, (blk_cell BK345.out 1).trans rfl⟩ (fun hHeld => ?_)
  clear hK K
  refine norm_ (a' := ?_) ?_ ?_
  rotate_left
  ·show Act.put _ (some 36) _ = _
   simp only [Act.put, z0_, z1_, z2_, i64_w, i32_w]
   rfl
  refine one_ (i := 7) (N := some 37) #[true, true, true, true, true, true, true, true, false] rfl rfl (one_of HT_.out (by kernel_rfl)) (by decide) (fun K hK => ?_)
  refine goes_ Tryd.func9 (by kernel_rfl) rfl #[.int .i64 a0, .slice Ao140 t349.length co140, .slice Ao141 t352.length co141, .agg #[.int .i64 t355, .slice Ao142 t356.length co142]] (by rfl) rfl rfl gl_ ?_
  with_reducible refine (spec_ProofText.calls k a0 _ _ t349 _ _ t352 t355 _ _ t356 t359 _ ?side1 ?side2 ?side3 ?side4 ?side5 ?side6 A22.out).mono ?_
  (case side1 => exact Kd.C_below (Kd.S_reads' HO351.out).2.2 lt_)
  (case side2 => exact (Kd.S_reads' HO351.out).2.1)
  (case side3 => exact Kd.C_below (Kd.R_reads' HO354.out).2.2 lt_)
  (case side4 => exact (Kd.R_reads' HO354.out).2.1)
  (case side5 => exact Kd.C_below (Kd.R_reads' HO358.out).2.2 lt_)
  (case side6 => exact (Kd.R_reads' HO358.out).2.1)
  rintro e w143 ⟨rfl, hb⟩
  refine ⟨_, rfl, ?_⟩
  replace HO351 := mk_ (Kd.S_below (Kd.S_below HO351.out lt_) hb)
  replace HO354 := mk_ (Kd.R_below (Kd.R_below HO354.out lt_) hb)
  replace HO358 := mk_ (Kd.R_below (Kd.R_below HO358.out lt_) hb)
  replace BK345 := mk_ (blk_at BK345.out hb)
  replace HB := mk_ (below_step (at_ HB.out) hb)
  (try clear hb)
  (try clear hb2)
  (try clear hk)
  (try clear hi)
  refine hK.out _ _ ⟨(blk_cell BK345.out 0).trans rfl, (blk_cell BK345.out 1).trans rfl⟩ (fun hHeld => ?_)
  clear hK K
  refine norm_ (a' := ?_) ?_ ?_
  rotate_left
  ·show Act.put _ (some 37) _ = _
   simp only [Act.put, z0_, z1_, z2_, i64_w, i32_w]
   rfl
  refine pure_ (i := 8) (N := some 10) (v := ?_) (a' := ?_) #[true, true, true, true, true, true, true, true, true] rfl rfl (any_of HT_.out (by kernel_rfl)) (fun _ _ _ h => h) (Or.inl ⟨by rfl, ?_⟩) ?_ ?_
  rotate_left
  ·intro w'
   go_simp
   with_reducible rfl
  rotate_left
  ·simp only [Act.put, z0_, z1_, z2_, i64_w, i32_w]
   rfl
  refine done_ (done_of HT_.out (by kernel_rfl)) ?_
  try go_wp2_with (first | ((with_reducible refine gate_callee (f := 16) rfl ?_); refine goesL_ (some 39) rfl rfl Tryd.func16 (by kernel_rfl) rfl #[.slice A1 l1.length c1] rfl gl_ ?_; (with_reducible refine (laws_toClaimS.calls k _ _ l1 t360 _ ?side1 ?side2 A23.out).mono ?_); (case side1 => exact Kd.C_below (Kd.C_below HR1.out HB.out) lt_); (case side2 => exact HC1.out); rintro e w144 ⟨v361, rfl, ho0, hb⟩; refine ⟨_, rfl, ?_⟩; replace HO358 := mk_ (Kd.R_below (Kd.R_below HO358.out lt_) hb); have HO362 := mk_ (Kd.S_lower (Kd.S_new' (Kd.S_new' ho0 (Kd.S_lt (Kd.S_below HO351.out lt_))) (Kd.R_lt (Kd.R_below HO354.out lt_))) (below_size (at_ HB.out))); replace HO351 := mk_ (Kd.S_elder' (Kd.S_below HO351.out lt_) (Kd.S_base ho0) hb); replace HO354 := mk_ (Kd.R_below (Kd.R_below HO354.out lt_) hb); replace BK345 := mk_ (blk_at BK345.out hb); replace HB := mk_ (below_step (at_ HB.out) hb); (try clear hb); (try clear hb2); (try clear hk); (try clear hi); (try clear ho0)) | ((with_reducible refine gate_callee (f := 17) rfl ?_); refine goesL_ (some 41) rfl rfl Tryd.func17 (by kernel_rfl) rfl #[.slice A2 l2.length c2] rfl gl_ ?_; (with_reducible refine (laws_toMarkS.calls k _ _ l2 t363 _ ?side1 ?side2 A24.out).mono ?_); (case side1 => exact Kd.C_below (Kd.C_below HR2.out HB.out) lt_); (case side2 => exact HC2.out); rintro e w145 ⟨v364, rfl, ho0, hb⟩; refine ⟨_, rfl, ?_⟩; replace HO351 := mk_ (Kd.S_elder' (Kd.S_below HO351.out lt_) (Kd.R_base ho0) hb); replace HO358 := mk_ (Kd.R_below (Kd.R_below HO358.out lt_) hb); replace HO362 := mk_ (Kd.S_elder' (Kd.S_below HO362.out lt_) (Kd.R_base ho0) hb); have HO365 := mk_ (Kd.R_lower (Kd.R_new' ho0 (Kd.R_lt (Kd.R_below HO354.out lt_))) (below_size (at_ HB.out))); replace HO354 := mk_ (Kd.R_elder' (Kd.R_below HO354.out lt_) (Kd.R_base ho0) hb); replace BK345 := mk_ (blk_at BK345.out hb); replace HB := mk_ (below_step (at_ HB.out) hb); (try clear hb); (try clear hb2); (try clear hk); (try clear hi); (try clear ho0); have hcz146_0 := blk_cell BK345.out 0; have hcz146_1 := blk_cell BK345.out 1; have hfz146_0 := blk_frozen BK345.out 0; have hfz146_1 := blk_frozen BK345.out 1) | ((with_reducible refine gate_callee (f := 18) rfl ?_); refine goesL_ (some 43) rfl rfl Tryd.func18 (by kernel_rfl) rfl #[.agg #[.int .i64 a3_0, .slice A3_1 l3_1.length c3_1]] rfl gl_ ?_; (with_reducible refine (laws_toProof.calls k a3_0 _ _ l3_1 t366 t367 _ ?side1 ?side2 A25.out).mono ?_); (case side1 => exact Kd.C_below (Kd.C_below HR3_1.out HB.out) lt_); (case side2 => exact HC3_1.out); rintro e w147 ⟨v368, rfl, ho0, hb⟩; refine ⟨_, rfl, ?_⟩; replace HO351 := mk_ (Kd.S_below (Kd.S_below HO351.out lt_) hb); replace HO354 := mk_ (Kd.R_below (Kd.R_below HO354.out lt_) hb); replace HO362 := mk_ (Kd.S_below (Kd.S_below HO362.out lt_) hb); replace HO365 := mk_ (Kd.R_below (Kd.R_below HO365.out lt_) hb); have HO369 := mk_ (Kd.R_lower (Kd.R_new' ho0 (Kd.R_lt (Kd.R_below HO358.out lt_))) (below_size (at_ HB.out))); replace BK345 := mk_ (blk_at BK345.out hb); replace HB := mk_ (below_step (at_ HB.out) hb); (try clear HO358); (try clear hb); (try clear hb2); (try clear hk); (try clear hi); (try clear ho0)) | ((with_reducible refine gate_dst (N := 13) rfl ?_); refine box_event ?hg (N := 13) ?hd (cs := #[.int .i64 0, .slice none 0 0]) (t := 27) ?hr ?_; (case hd => rfl); (case hg => rfl); (case hr => first | (go_simp; done) | (go_simp; rfl)); intro gb370 hg w148 hbox hb; replace HO351 := mk_ (Kd.S_below (Kd.S_below HO351.out lt_) hb); replace HO354 := mk_ (Kd.R_below (Kd.R_below HO354.out lt_) hb); replace HO362 := mk_ (Kd.S_below (Kd.S_below HO362.out lt_) hb); replace HO365 := mk_ (Kd.R_below (Kd.R_below HO365.out lt_) hb); replace HO369 := mk_ (Kd.R_below (Kd.R_below HO369.out lt_) hb); have BK370 := mk_ (hbox); have GW370 := mk_ ((by rw [hg]; exact (below_size (at_ HB.out)) : w.heap.size ≤ gb370)); have GE370 := mk_ ((by rw [hg]; exact (below_size (at_ HB.out)) : w.heap.size ≤ gb370)); replace HB := mk_ (below_step (at_ HB.out) hb); have NB345_370 := mk_ ((by rw [hg]; exact Nat.ne_of_lt (blk_lt (g := gb345) (o := .cells #[.int .i64 a3_0, .slice A3_1 l3_1.length c3_1] 40 (0, 0)) (bk_ BK345.out)) : gb345 ≠ gb370)); have NB370_345 := mk_ ((by rw [hg]; exact Nat.ne_of_gt (blk_lt (g := gb345) (o := .cells #[.int .i64 a3_0, .slice A3_1 l3_1.length c3_1] 40 (0, 0)) (bk_ BK345.out)) : gb370 ≠ gb345)); (try clear HO358 BK345); clear hb hbox hg; have hnb149 := NB370_345.out; have hnc149 := NB345_370.out; have hcz150_0 := blk_cell BK370.out 0; have hcz150_1 := blk_cell BK370.out 1; have hfz150_0 := blk_frozen BK370.out 0; have hfz150_1 := blk_frozen BK370.out 1; obtain ⟨Ao151, co151, eo151⟩ := Kd.R_slice HO369.out; subst eo151; obtain ⟨Ao152, co152, eo152⟩ := Kd.S_slice HO362.out; subst eo152; obtain ⟨Ao153, co153, eo153⟩ := Kd.R_slice HO365.out; subst eo153) | ((with_reducible refine gate_callee (f := 8) rfl ?_); refine goesL_ (some 48) rfl rfl Tryd.func8 (by kernel_rfl) rfl #[.int .i64 a0, .slice Ao152 t360.length co152, .slice Ao153 t363.length co153, .agg #[.int .i64 t366, .slice Ao151 t367.length co151]] rfl gl_ ?_; (with_reducible refine (impl_ProofText.calls k a0 _ _ t360 _ _ t363 t366 _ _ t367 t371 _ ?side1 ?side2 ?side3 ?side4 ?side5 ?side6 A26.out).mono ?_); (case side1 => refine (Kd.S_reads' (e := 79) (base := w.heap.size) (ok := fun k_ => (((True ∧ some k_ ≠ (.slice Ao140 t349.length co140 : Value).ownBlock) ∧ some k_ ≠ (.slice Ao141 t352.length co141 : Value).ownBlock) ∧ some k_ ≠ (.slice Ao153 t363.length co153 : Value).ownBlock)) (n := t360.length) (c := co152) ?_).2.2; exact (by (with_reducible repeat (first | apply Kd.S_alloc | apply Kd.S_drewN | apply Kd.S_drew)); exact (Kd.S_mono (Kd.S_far (p := ⟨gb370, 1, none⟩) (Kd.S_far (p := ⟨gb370, 0, none⟩) (Kd.S_types HO362.out BK370.out (by decide)) (fun _ hk => hk.2) (.int .i64 t366)) (fun _ hk => hk.2) (.slice Ao151 t367.length co151)) (fun _ h_ => h_.1)))); (case side2 => exact (Kd.S_reads' HO362.out).2.1); (case side3 => refine (Kd.R_reads' (e := 82) (base := w.heap.size) (ok := fun k_ => (True ∧ some k_ ≠ (.slice Ao141 t352.length co141 : Value).ownBlock)) (n := t363.length) (c := co153) ?_).2.2; exact (by (with_reducible repeat (first | apply Kd.R_alloc | apply Kd.R_drewN | apply Kd.R_drew)); exact (Kd.R_mono (Kd.R_far (p := ⟨gb370, 1, none⟩) (Kd.R_far (p := ⟨gb370, 0, none⟩) (Kd.R_types HO365.out BK370.out (by decide)) (fun _ hk => hk.2) (.int .i64 t366)) (fun _ hk => hk.2) (.slice Ao151 t367.length co151)) (fun _ h_ => h_.1)))); (case side4 => exact (Kd.R_reads' HO365.out).2.1); (case side5 => refine (Kd.R_reads' (e := 68) (base := w.heap.size) (ok := fun k_ => (True ∧ some k_ ≠ (.slice Ao142 t356.length co142 : Value).ownBlock)) (n := t367.length) (c := co151) ?_).2.2; exact (by (with_reducible repeat (first | apply Kd.R_alloc | apply Kd.R_drewN | apply Kd.R_drew)); exact (Kd.R_mono (Kd.R_far (p := ⟨gb370, 1, none⟩) (Kd.R_far (p := ⟨gb370, 0, none⟩) (Kd.R_types HO369.out BK370.out (by decide)) (fun _ hk => hk.2) (.int .i64 t366)) (fun _ hk => hk.2) (.slice Ao151 t367.length co151)) (fun _ h_ => h_.1)))); (case side6 => exact (Kd.R_reads' HO369.out).2.1); rintro e w154 ⟨rfl, hb⟩; refine ⟨_, rfl, ?_⟩; replace HO351 := mk_ (Kd.S_below (by (with_reducible repeat (first | apply Kd.S_alloc | apply Kd.S_drewN | apply Kd.S_drew)); exact (Kd.S_mono (Kd.S_far (p := ⟨gb370, 1, none⟩) (Kd.S_far (p := ⟨gb370, 0, none⟩) (Kd.S_types HO351.out BK370.out (by decide)) (fun _ hk => hk.2) (.int .i64 t366)) (fun _ hk => hk.2) (.slice Ao151 t367.length co151)) (fun _ h_ => h_.1))) hb); replace HO354 := mk_ (Kd.R_below (by (with_reducible repeat (first | apply Kd.R_alloc | apply Kd.R_drewN | apply Kd.R_drew)); exact (Kd.R_mono (Kd.R_far (p := ⟨gb370, 1, none⟩) (Kd.R_far (p := ⟨gb370, 0, none⟩) (Kd.R_types HO354.out BK370.out (by decide)) (fun _ hk => hk.2) (.int .i64 t366)) (fun _ hk => hk.2) (.slice Ao151 t367.length co151)) (fun _ h_ => h_.1))) hb); replace HO362 := mk_ (Kd.S_below (by (with_reducible repeat (first | apply Kd.S_alloc | apply Kd.S_drewN | apply Kd.S_drew)); exact (Kd.S_mono (Kd.S_far (p := ⟨gb370, 1, none⟩) (Kd.S_far (p := ⟨gb370, 0, none⟩) (Kd.S_types HO362.out BK370.out (by decide)) (fun _ hk => hk.2) (.int .i64 t366)) (fun _ hk => hk.2) (.slice Ao151 t367.length co151)) (fun _ h_ => h_.1))) hb); replace HO365 := mk_ (Kd.R_below (by (with_reducible repeat (first | apply Kd.R_alloc | apply Kd.R_drewN | apply Kd.R_drew)); exact (Kd.R_mono (Kd.R_far (p := ⟨gb370, 1, none⟩) (Kd.R_far (p := ⟨gb370, 0, none⟩) (Kd.R_types HO365.out BK370.out (by decide)) (fun _ hk => hk.2) (.int .i64 t366)) (fun _ hk => hk.2) (.slice Ao151 t367.length co151)) (fun _ h_ => h_.1))) hb); replace HB := mk_ (below_step (at_ HB.out) hb); (try clear HO358 HO369 BK345 BK370); (try clear hb); (try clear hb2); (try clear hk); (try clear hi)) | ((with_reducible refine gate_callee (f := 16) rfl ?_); refine goesL_ (some 54) rfl rfl Tryd.func16 (by kernel_rfl) rfl #[.slice A1 l1.length c1] rfl gl_ ?_; (with_reducible refine (laws_toClaimS.calls k _ _ l1 t372 _ ?side1 ?side2 A28.out).mono ?_); (case side1 => exact Kd.C_below (Kd.C_below HR1.out HB.out) lt_); (case side2 => exact HC1.out); rintro e w155 ⟨v373, rfl, ho0, hb⟩; refine ⟨_, rfl, ?_⟩; have HO374 := mk_ (Kd.S_lower (Kd.S_new' (Kd.S_new' (Kd.S_new' (Kd.S_new' ho0 (Kd.S_lt (Kd.S_below HO351.out lt_))) (Kd.R_lt (Kd.R_below HO354.out lt_))) (Kd.S_lt (Kd.S_below HO362.out lt_))) (Kd.R_lt (Kd.R_below HO365.out lt_))) (below_size (at_ HB.out))); replace HO362 := mk_ (Kd.S_elder' (Kd.S_below HO362.out lt_) (Kd.S_base ho0) hb); replace HB := mk_ (below_step (at_ HB.out) hb); (try clear HO351 HO354 HO358 HO365 HO369 BK345 BK370); (try clear hb); (try clear hb2); (try clear hk); (try clear hi); (try clear ho0); obtain ⟨Ao156, co156, eo156⟩ := Kd.S_slice HO374.out; subst eo156) | ((with_reducible refine gate_callee (f := 19) rfl ?_); refine goesL_ (some 55) rfl rfl Tryd.func19 (by kernel_rfl) rfl #[.slice Ao152 t360.length co152, .slice Ao156 t372.length co156] rfl gl_ ?_; (with_reducible refine (laws_eqClaimS.calls k _ _ t360 _ _ t372 false _ ?side1 ?side2 ?side3 ?side4 A29.out).mono ?_); (case side1 => exact Kd.C_below (Kd.S_reads' HO362.out).2.2 lt_); (case side2 => exact (Kd.S_reads' HO362.out).2.1); (case side3 => exact Kd.C_below (Kd.S_reads' HO374.out).2.2 lt_); (case side4 => exact (Kd.S_reads' HO374.out).2.1); rintro e w157 ⟨rfl, hb⟩; refine ⟨_, rfl, ?_⟩; replace HB := mk_ (below_step (at_ HB.out) hb); (try clear HO351 HO354 HO358 HO362 HO365 HO369 HO374 BK345 BK370); (try clear hb); (try clear hb2); (try clear hk); (try clear hi)))
  go_ret
  exact ⟨er_, at_ HB.out⟩
 subst c30
 rw [if_pos rfl] at H
 replace H := Option.bind_eq_some_iff.mp H
 obtain ⟨t376, A310, H⟩ := H
 try dsimp only at H
 have A31 := mk_ A310
 clear A310
 replace H := Option.bind_eq_some_iff.mp H
 obtain ⟨t379, A320, H⟩ := H
 try dsimp only at H
 have A32 := mk_ A320
 clear A320
 by_cases c33 : t379 = true
 rotate_left
 ·replace c33 := Bool.eq_false_iff.mpr c33
  subst c33
  rw [if_neg (show ¬ (false = true) by decide)] at H
  obtain rfl := Option.some.inj H
  go_enter Tryd.func4, Tryd.ntmps4
  try go_wp2_with (first | ((with_reducible refine gate_dst (N := 7) rfl ?_); refine box_event ?hg (N := 7) ?hd (cs := #[.int .i64 a3_0, .slice A3_1 l3_1.length c3_1]) (t := 40) ?hr ?_; (case hd => rfl); (case hg => rfl); (case hr => first | (go_simp; done) | (go_simp; rfl)); intro gb345 hg w103 hbox hb; have BK345 := mk_ (hbox); have GW345 := mk_ (gb_ hg HB.out); have GE345 := mk_ (gb_ hg HB.out); replace HB := mk_ (below_step (below_at HB.out) hb); clear hb hbox hg) | ((with_reducible refine gate_callee (f := 13) rfl ?_); refine goesL_ (some 17) rfl rfl Tryd.func13 (by kernel_rfl) rfl #[.slice A1 l1.length c1, .int .i64 1048576] rfl gl_ ?_; (with_reducible refine (laws_szClaimS.calls k _ _ l1 1048576 t346 _ ?side1 ?side2 A5.out).mono ?_); (case side1 => exact Kd.C_below (Kd.C_below HR1.out HB.out) lt_); (case side2 => exact HC1.out); rintro e w104 ⟨rfl, hb⟩; refine ⟨_, rfl, ?_⟩; replace BK345 := mk_ (blk_at BK345.out hb); replace HB := mk_ (below_step (at_ HB.out) hb); (try clear hb); (try clear hb2); (try clear hk); (try clear hi)) | ((with_reducible refine gate_callee (f := 14) rfl ?_); refine goesL_ (some 22) rfl rfl Tryd.func14 (by kernel_rfl) rfl #[.slice A2 l2.length c2, .int .i64 t346] rfl gl_ ?_; (with_reducible refine (laws_szMarkS.calls _ _ l2 t346 t347 _ ?side1 ?side2 A9.out).mono ?_); (case side1 => exact Kd.C_below (Kd.C_below HR2.out HB.out) lt_); (case side2 => exact HC2.out); rintro e w' ⟨rfl, ⟨nd, rfl⟩⟩; refine ⟨_, rfl, ?_⟩; (try (rw [drewN_self w104]; generalize hq_ : World.drewN w104 _ = w104; have n0_ : Aside0 (w104.heap[gb345]? = some (.cells #[.int .i64 a3_0, .slice A3_1 l3_1.length c3_1] 40 (0, 0))) := ⟨by rw [← hq_]; exact (bk_ BK345.out)⟩; have n1_ : Aside0 (Below w.heap.size w w104) := ⟨by rw [← hq_]; exact (at_ HB.out)⟩; clear BK345 HB hq_; have BK345 := n0_; have HB := n1_; clear n0_ n1_)); have hcz105_0 := blk_cell BK345.out 0; have hcz105_1 := blk_cell BK345.out 1; have hfz105_0 := blk_frozen BK345.out 0; have hfz105_1 := blk_frozen BK345.out 1) | ((with_reducible refine gate_callee (f := 15) rfl ?_); refine goesL_ (some 27) rfl rfl Tryd.func15 (by kernel_rfl) rfl #[.agg #[.int .i64 a3_0, .slice A3_1 l3_1.length c3_1], .int .i64 t347] rfl gl_ ?_; (with_reducible refine (laws_szProof.calls a3_0 _ _ l3_1 t347 t348 _ ?side1 ?side2 A13.out).mono ?_); (case side1 => exact Kd.C_below (Kd.C_below HR3_1.out HB.out) lt_); (case side2 => exact HC3_1.out); rintro e w106 ⟨rfl, hb⟩; refine ⟨_, rfl, ?_⟩; replace BK345 := mk_ (blk_at BK345.out hb); replace HB := mk_ (below_step (at_ HB.out) hb); (try clear hb); (try clear hb2); (try clear hk); (try clear hi)))
  replace BK345 := mk_ (blk_drew BK345.out)
  replace HB := mk_ (below_drew1 HB.out)
  refine start_ (n := 9) (S := fun w' => w'.cell? ⟨gb345, 0, none⟩ = some (.int .i64 a3_0) ∧ w'.cell? ⟨gb345, 1, none⟩ = some (.slice A3_1 l3_1.length c3_1)) (ds := []) #[false, false, false, false, false, false, false, false, false] (by kernel_rfl) rfl rfl ⟨(blk_cell BK345.out 0).trans rfl, (blk_cell BK345.out 1).trans rfl⟩ (fun hHeld => ?_); refine with_tabW laws_FnExactProofText.tab11 laws_FnExactProofText.bits11 (fun HT_ HW_ => ?_)
  generalize w106.drew = w107 at BK345 HB hHeld ⊢
  refine pure_ (i := 0) (N := some 30) (v := ?_) (a' := ?_) #[true, false, false, false, false, false, false, false, false] rfl rfl (any_of HT_.out (by kernel_rfl)) (fun _ _ _ h => h) (Or.inl ⟨by rfl, ?_⟩) ?_ ?_
  rotate_left
  ·intro w'
   go_simp
   with_reducible rfl
  rotate_left
  ·simp only [Act.put, z0_, z1_, z2_, i64_w, i32_w]
   rfl
  refine pure_ (i := 1) (N := some 31) (v := ?_) (a' := ?_) #[true, true, false, false, false, false, false, false, false] rfl rfl (any_of HT_.out (by kernel_rfl)) (fun _ _ _ h => h) (Or.inl ⟨by rfl, ?_⟩) ?_ ?_
  rotate_left
  ·intro w'
   go_simp
   with_reducible rfl
  rotate_left
  ·simp only [Act.put, z0_, z1_, z2_, i64_w, i32_w]
   rfl
  refine pure_ (i := 3) (N := some 33) (v := ?_) (a' := ?_) #[true, true, false, true, false, false, false, false, false] rfl rfl (any_of HT_.out (by kernel_rfl)) (fun _ _ _ h => h) (Or.inl ⟨by rfl, ?_⟩) ?_ ?_
  rotate_left
  ·intro w'
   go_simp
   with_reducible rfl
  rotate_left
  ·simp only [Act.put, z0_, z1_, z2_, i64_w, i32_w]
   rfl
  refine take_ (i := 5) (N := some 35) (v := ?_) (a' := ?_) #[true, true, false, true, false, true, false, false, false] rfl rfl (take_ofW HT_.out HW_.out (by kernel_rfl)) (fun _ _ _ h => h) (Or.inl ⟨by rfl, ?_⟩) hHeld ?_ ?_
  rotate_left
  ·rintro w' ⟨s0, s1⟩
   go_simp
   with_reducible rfl
  rotate_left
  ·simp only [Act.put, z0_, z1_, z2_, i64_w, i32_w]
   rfl
  refine one_ (i := 2) (N := some 32) #[true, true, true, true, false, true, false, false, false] rfl rfl (one_of HT_.out (by kernel_rfl)) (by decide) (fun K hK => ?_)
  refine goes_ Tryd.func16 (by kernel_rfl) rfl #[.slice A1 l1.length c1] (by rfl) rfl rfl gl_ ?_
  with_reducible refine (laws_toClaimS.calls k _ _ l1 t349 _ ?side1 ?side2 A19.out).mono ?_
  (case side1 => exact Kd.C_below (Kd.C_below HR1.out HB.out) lt_)
  (case side2 => exact HC1.out)
  rintro e w108 ⟨v350, rfl, ho0, hb⟩
  refine ⟨_, rfl, ?_⟩
  have HO351 := mk_ (Kd.S_lower ho0 (below_size (at_ HB.out)))
  replace BK345 := mk_ (blk_at BK345.out hb)
  replace HB := mk_ (below_step (at_ HB.out) hb)
  (try clear hb)
  (try clear hb2)
  (try clear hk)
  (try clear hi)
  (try clear ho0)
  refine hK.out _ _ ⟨(blk_cell BK345.out 0).trans rfl, (blk_cell BK345.out 1).trans rfl⟩ (fun hHeld => ?_)
  clear hK K
  refine norm_ (a' := ?_) ?_ ?_
  rotate_left
  ·show Act.put _ (some 32) _ = _
   simp only [Act.put, z0_, z1_, z2_, i64_w, i32_w]
   rfl
  refine one_ (i := 4) (N := some 34) #[true, true, true, true, true, true, false, false, false] rfl rfl (one_of HT_.out (by kernel_rfl)) (by decide) (fun K hK => ?_)
  refine goes_ Tryd.func17 (by kernel_rfl) rfl #[.slice A2 l2.length c2] (by rfl) rfl rfl gl_ ?_
  with_reducible refine (laws_toMarkS.calls k _ _ l2 t352 _ ?side1 ?side2 A20.out).mono ?_
  (case side1 => exact Kd.C_below (Kd.C_below HR2.out HB.out) lt_)
  (case side2 => exact HC2.out)
  rintro e w109 ⟨v353, rfl, ho0, hb⟩
  refine ⟨_, rfl, ?_⟩
  replace HO351 := mk_ (Kd.S_elder' (Kd.S_below HO351.out lt_) (Kd.R_base ho0) hb)
  have HO354 := mk_ (Kd.R_lower ho0 (below_size (at_ HB.out)))
  replace BK345 := mk_ (blk_at BK345.out hb)
  replace HB := mk_ (below_step (at_ HB.out) hb)
  (try clear hb)
  (try clear hb2)
  (try clear hk)
  (try clear hi)
  (try clear ho0)
  refine hK.out _ _ ⟨(blk_cell BK345.out 0).trans rfl, (blk_cell BK345.out 1).trans rfl⟩ (fun hHeld => ?_)
  clear hK K
  refine norm_ (a' := ?_) ?_ ?_
  rotate_left
  ·show Act.put _ (some 34) _ = _
   simp only [Act.put, z0_, z1_, z2_, i64_w, i32_w]
   rfl
  refine one_ (i := 6) (N := some 36) #[true, true, true, true, true, true, true, false, false] rfl rfl (one_of HT_.out (by kernel_rfl)) (by decide) (fun K hK => ?_)
  refine goes_ Tryd.func18 (by kernel_rfl) rfl #[.agg #[.int .i64 a3_0, .slice A3_1 l3_1.length c3_1]] (by rfl) rfl rfl gl_ ?_
  with_reducible refine (laws_toProof.calls k a3_0 _ _ l3_1 t355 t356 _ ?side1 ?side2 A21.out).mono ?_
  (case side1 => exact Kd.C_below (Kd.C_below HR3_1.out HB.out) lt_)
  (case side2 => exact HC3_1.out)
  rintro e w110 ⟨v357, rfl, ho0, hb⟩
  refine ⟨_, rfl, ?_⟩
  replace HO351 := mk_ (Kd.S_below (Kd.S_below HO351.out lt_) hb)
  replace HO354 := mk_ (Kd.R_below (Kd.R_below HO354.out lt_) hb)
  have HO358 := mk_ (Kd.R_lower ho0 (below_size (at_ HB.out)))
  replace BK345 := mk_ (blk_at BK345.out hb)
  replace HB := mk_ (below_step (at_ HB.out) hb)
  (try clear hb)
  (try clear hb2)
  (try clear hk)
  (try clear hi)
  (try clear ho0)
  obtain ⟨Ao111, co111, eo111⟩ := Kd.S_slice HO351.out
  (first | subst eo111 | (injection eo111 with f1_ f2_ f3_; have f4_ := f1_.symm; have f5_ := f3_.symm; clear f1_ f2_ f3_; subst f4_; subst f5_))
  obtain ⟨Ao112, co112, eo112⟩ := Kd.R_slice HO354.out
  (first | subst eo112 | (injection eo112 with f1_ f2_ f3_; have f4_ := f1_.symm; have f5_ := f3_.symm; clear f1_ f2_ f3_; subst f4_; subst f5_))
  obtain ⟨Ao113, co113, eo113⟩ := Kd.R_slice HO358.out
  (first | subst eo113 | (injection eo113 with f1_ f2_ f3_; have f4_ := f1_.symm; have f5_ := f3_.symm; clear f1_ f2_ f3_; subst f4_; subst f5_))
  refine hK.out _ _ ⟨(blk_cell BK345.out 0).trans rfl, (blk_cell BK345.out 1).trans rfl⟩ (fun hHeld => ?_)
  clear hK K
  refine norm_ (a' := ?_) ?_ ?_
  rotate_left
  ·show Act.put _ (some 36) _ = _
   simp only [Act.put, z0_, z1_, z2_, i64_w, i32_w]
   rfl
  refine one_ (i := 7) (N := some 37) #[true, true, true, true, true, true, true, true, false] rfl rfl (one_of HT_.out (by kernel_rfl)) (by decide) (fun K hK => ?_)
  refine goes_ Tryd.func9 (by kernel_rfl) rfl #[.int .i64 a0, .slice Ao111 t349.length co111, .slice Ao112 t352.length co112, .agg #[.int .i64 t355, .slice Ao113 t356.length co113]] (by rfl) rfl rfl gl_ ?_
  with_reducible refine (spec_ProofText.calls k a0 _ _ t349 _ _ t352 t355 _ _ t356 t359 _ ?side1 ?side2 ?side3 ?side4 ?side5 ?side6 A22.out).mono ?_
  (case side1 => exact Kd.C_below (Kd.S_reads' HO351.out).2.2 lt_)
  (case side2 => exact (Kd.S_reads' HO351.out).2.1)
  (case side3 => exact Kd.C_below (Kd.R_reads' HO354.out).2.2 lt_)
  (case side4 => exact (Kd.R_reads' HO354.out).2.1)
  (case side5 => exact Kd.C_below (Kd.R_reads' HO358.out).2.2 lt_)
  (case side6 => exact (Kd.R_reads' HO358.out).2.1)
  rintro e w114 ⟨rfl, hb⟩
  refine ⟨_, rfl, ?_⟩
  replace HO351 := mk_ (Kd.S_below (Kd.S_below HO351.out lt_) hb)
  replace HO354 := mk_ (Kd.R_below (Kd.R_below HO354.out lt_) hb)
  replace HO358 := mk_ (Kd.R_below (Kd.R_below HO358.out lt_) hb)
  replace BK345 := mk_ (blk_at BK345.out hb)
  replace HB := mk_ (below_step (at_ HB.out) hb)
  (try clear hb)
  (try clear hb2)
  (try clear hk)
  (try clear hi)
  refine hK.out _ _ ⟨(blk_cell BK345.out 0).trans rfl, (blk_cell BK345.out 1).trans rfl⟩ (fun hHeld => ?_)
  clear hK K
  refine norm_ (a' := ?_) ?_ ?_
  rotate_left
  ·show Act.put _ (some 37) _ = _
   simp only [Act.put, z0_, z1_, z2_, i64_w, i32_w]
   rfl
  refine pure_ (i := 8) (N := some 10) (v := ?_) (a' := ?_) #[true, true, true, true, true, true, true, true, true] rfl rfl (any_of HT_.out (by kernel_rfl)) (fun _ _ _ h => h) (Or.inl ⟨by rfl, ?_⟩) ?_ ?_
  rotate_left
  ·intro w'
   go_simp
   with_reducible rfl
  rotate_left
  ·simp only [Act.put, z0_, z1_, z2_, i64_w, i32_w]
   rfl
  refine done_ (done_of HT_.out (by kernel_rfl)) ?_
  try go_wp2_with (first | ((with_reducible refine gate_callee (f := 16) rfl ?_); refine goesL_ (some 39) rfl rfl Tryd.func16 (by kernel_rfl) rfl #[.slice A1 l1.length c1] rfl gl_ ?_; (with_reducible refine (laws_toClaimS.calls k _ _ l1 t360 _ ?side1 ?side2 A23.out).mono ?_); (case side1 => exact Kd.C_below (Kd.C_below HR1.out HB.out) lt_); (case side2 => exact HC1.out); rintro e w115 ⟨v361, rfl, ho0, hb⟩; refine ⟨_, rfl, ?_⟩; replace HO358 := mk_ (Kd.R_below (Kd.R_below HO358.out lt_) hb); have HO362 := mk_ (Kd.S_lower (Kd.S_new' (Kd.S_new' ho0 (Kd.S_lt (Kd.S_below HO351.out lt_))) (Kd.R_lt (Kd.R_below HO354.out lt_))) (below_size (at_ HB.out))); replace HO351 := mk_ (Kd.S_elder' (Kd.S_below HO351.out lt_) (Kd.S_base ho0) hb); replace HO354 := mk_ (Kd.R_below (Kd.R_below HO354.out lt_) hb); replace BK345 := mk_ (blk_at BK345.out hb); replace HB := mk_ (below_step (at_ HB.out) hb); (try clear hb); (try clear hb2); (try clear hk); (try clear hi); (try clear ho0)) | ((with_reducible refine gate_callee (f := 17) rfl ?_); refine goesL_ (some 41) rfl rfl Tryd.func17 (by kernel_rfl) rfl #[.slice A2 l2.length c2] rfl gl_ ?_; (with_reducible refine (laws_toMarkS.calls k _ _ l2 t363 _ ?side1 ?side2 A24.out).mono ?_); (case side1 => exact Kd.C_below (Kd.C_below HR2.out HB.out) lt_); (case side2 => exact HC2.out); rintro e w116 ⟨v364, rfl, ho0, hb⟩; refine ⟨_, rfl, ?_⟩; replace HO351 := mk_ (Kd.S_elder' (Kd.S_below HO351.out lt_) (Kd.R_base ho0) hb); replace HO358 := mk_ (Kd.R_below (Kd.R_below HO358.out lt_) hb); replace HO362 := mk_ (Kd.S_elder' (Kd.S_below HO362.out lt_) (Kd.R_base ho0) hb); have HO365 := mk_ (Kd.R_lower (Kd.R_new' ho0 (Kd.R_lt (Kd.R_below HO354.out lt_))) (below_size (at_ HB.out))); replace HO354 := mk_ (Kd.R_elder' (Kd.R_below HO354.out lt_) (Kd.R_base ho0) hb); replace BK345 := mk_ (blk_at BK345.out hb); replace HB := mk_ (below_step (at_ HB.out) hb); (try clear hb); (try clear hb2); (try clear hk); (try clear hi); (try clear ho0); have hcz117_0 := blk_cell BK345.out 0; have hcz117_1 := blk_cell BK345.out 1; have hfz117_0 := blk_frozen BK345.out 0; have hfz117_1 := blk_frozen BK345.out 1) | ((with_reducible refine gate_callee (f := 18) rfl ?_); refine goesL_ (some 43) rfl rfl Tryd.func18 (by kernel_rfl) rfl #[.agg #[.int .i64 a3_0, .slice A3_1 l3_1.length c3_1]] rfl gl_ ?_; (with_reducible refine (laws_toProof.calls k a3_0 _ _ l3_1 t366 t367 _ ?side1 ?side2 A25.out).mono ?_); (case side1 => exact Kd.C_below (Kd.C_below HR3_1.out HB.out) lt_); (case side2 => exact HC3_1.out); rintro e w118 ⟨v368, rfl, ho0, hb⟩; refine ⟨_, rfl, ?_⟩; replace HO351 := mk_ (Kd.S_below (Kd.S_below HO351.out lt_) hb); replace HO354 := mk_ (Kd.R_below (Kd.R_below HO354.out lt_) hb); replace HO362 := mk_ (Kd.S_below (Kd.S_below HO362.out lt_) hb); replace HO365 := mk_ (Kd.R_below (Kd.R_below HO365.out lt_) hb); have HO369 := mk_ (Kd.R_lower (Kd.R_new' ho0 (Kd.R_lt (Kd.R_below HO358.out lt_))) (below_size (at_ HB.out))); replace BK345 := mk_ (blk_at BK345.out hb); replace HB := mk_ (below_step (at_ HB.out) hb); (try clear HO358); (try clear hb); (try clear hb2); (try clear hk); (try clear hi); (try clear ho0)) | ((with_reducible refine gate_dst (N := 13) rfl ?_); refine box_event ?hg (N := 13) ?hd (cs := #[.int .i64 0, .slice none 0 0]) (t := 27) ?hr ?_; (case hd => rfl); (case hg => rfl); (case hr => first | (go_simp; done) | (go_simp; rfl)); intro gb370 hg w119 hbox hb; replace HO351 := mk_ (Kd.S_below (Kd.S_below HO351.out lt_) hb); replace HO354 := mk_ (Kd.R_below (Kd.R_below HO354.out lt_) hb); replace HO362 := mk_ (Kd.S_below (Kd.S_below HO362.out lt_) hb); replace HO365 := mk_ (Kd.R_below (Kd.R_below HO365.out lt_) hb); replace HO369 := mk_ (Kd.R_below (Kd.R_below HO369.out lt_) hb); have BK370 := mk_ (hbox); have GW370 := mk_ ((by rw [hg]; exact (below_size (at_ HB.out)) : w.heap.size ≤ gb370)); have GE370 := mk_ ((by rw [hg]; exact (below_size (at_ HB.out)) : w.heap.size ≤ gb370)); replace HB := mk_ (below_step (at_ HB.out) hb); have NB345_370 := mk_ ((by rw [hg]; exact Nat.ne_of_lt (blk_lt (g := gb345) (o := .cells #[.int .i64 a3_0, .slice A3_1 l3_1.length c3_1] 40 (0, 0)) (bk_ BK345.out)) : gb345 ≠ gb370)); have NB370_345 := mk_ ((by rw [hg]; exact Nat.ne_of_gt (blk_lt (g := gb345) (o := .cells #[.int .i64 a3_0, .slice A3_1 l3_1.length c3_1] 40 (0, 0)) (bk_ BK345.out)) : gb370 ≠ gb345)); (try clear HO358 BK345); clear hb hbox hg; have hnb120 := NB370_345.out; have hnc120 := NB345_370.out; have hcz121_0 := blk_cell BK370.out 0; have hcz121_1 := blk_cell BK370.out 1; have hfz121_0 := blk_frozen BK370.out 0; have hfz121_1 := blk_frozen BK370.out 1; obtain ⟨Ao122, co122, eo122⟩ := Kd.R_slice HO369.out; subst eo122; obtain ⟨Ao123, co123, eo123⟩ := Kd.S_slice HO362.out; subst eo123; obtain ⟨Ao124, co124, eo124⟩ := Kd.R_slice HO365.out; subst eo124) | ((with_reducible refine gate_callee (f := 8) rfl ?_); refine goesL_ (some 48) rfl rfl Tryd.func8 (by kernel_rfl) rfl #[.int .i64 a0, .slice Ao123 t360.length co123, .slice Ao124 t363.length co124, .agg #[.int .i64 t366, .slice Ao122 t367.length co122]] rfl gl_ ?_; (with_reducible refine (impl_ProofText.calls k a0 _ _ t360 _ _ t363 t366 _ _ t367 t371 _ ?side1 ?side2 ?side3 ?side4 ?side5 ?side6 A26.out).mono ?_); (case side1 => refine (Kd.S_reads' (e := 79) (base := w.heap.size) (ok := fun k_ => (((True ∧ some k_ ≠ (.slice Ao111 t349.length co111 : Value).ownBlock) ∧ some k_ ≠ (.slice Ao112 t352.length co112 : Value).ownBlock) ∧ some k_ ≠ (.slice Ao124 t363.length co124 : Value).ownBlock)) (n := t360.length) (c := co123) ?_).2.2; exact (by (with_reducible repeat (first | apply Kd.S_alloc | apply Kd.S_drewN | apply Kd.S_drew)); exact (Kd.S_mono (Kd.S_far (p := ⟨gb370, 1, none⟩) (Kd.S_far (p := ⟨gb370, 0, none⟩) (Kd.S_types HO362.out BK370.out (by decide)) (fun _ hk => hk.2) (.int .i64 t366)) (fun _ hk => hk.2) (.slice Ao122 t367.length co122)) (fun _ h_ => h_.1)))); (case side2 => exact (Kd.S_reads' HO362.out).2.1); (case side3 => refine (Kd.R_reads' (e := 82) (base := w.heap.size) (ok := fun k_ => (True ∧ some k_ ≠ (.slice Ao112 t352.length co112 : Value).ownBlock)) (n := t363.length) (c := co124) ?_).2.2; exact (by (with_reducible repeat (first | apply Kd.R_alloc | apply Kd.R_drewN | apply Kd.R_drew)); exact (Kd.R_mono (Kd.R_far (p := ⟨gb370, 1, none⟩) (Kd.R_far (p := ⟨gb370, 0, none⟩) (Kd.R_types HO365.out BK370.out (by decide)) (fun _ hk => hk.2) (.int .i64 t366)) (fun _ hk => hk.2) (.slice Ao122 t367.length co122)) (fun _ h_ => h_.1)))); (case side4 => exact (Kd.R_reads' HO365.out).2.1); (case side5 => refine (Kd.R_reads' (e := 68) (base := w.heap.size) (ok := fun k_ => (True ∧ some k_ ≠ (.slice Ao113 t356.length co113 : Value).ownBlock)) (n := t367.length) (c := co122) ?_).2.2; exact (by (with_reducible repeat (first | apply Kd.R_alloc | apply Kd.R_drewN | apply Kd.R_drew)); exact (Kd.R_mono (Kd.R_far (p := ⟨gb370, 1, none⟩) (Kd.R_far (p := ⟨gb370, 0, none⟩) (Kd.R_types HO369.out BK370.out (by decide)) (fun _ hk => hk.2) (.int .i64 t366)) (fun _ hk => hk.2) (.slice Ao122 t367.length co122)) (fun _ h_ => h_.1)))); (case side6 => exact (Kd.R_reads' HO369.out).2.1); rintro e w125 ⟨rfl, hb⟩; refine ⟨_, rfl, ?_⟩; replace HO351 := mk_ (Kd.S_below (by (with_reducible repeat (first | apply Kd.S_alloc | apply Kd.S_drewN | apply Kd.S_drew)); exact (Kd.S_mono (Kd.S_far (p := ⟨gb370, 1, none⟩) (Kd.S_far (p := ⟨gb370, 0, none⟩) (Kd.S_types HO351.out BK370.out (by decide)) (fun _ hk => hk.2) (.int .i64 t366)) (fun _ hk => hk.2) (.slice Ao122 t367.length co122)) (fun _ h_ => h_.1))) hb); replace HO354 := mk_ (Kd.R_below (by (with_reducible repeat (first | apply Kd.R_alloc | apply Kd.R_drewN | apply Kd.R_drew)); exact (Kd.R_mono (Kd.R_far (p := ⟨gb370, 1, none⟩) (Kd.R_far (p := ⟨gb370, 0, none⟩) (Kd.R_types HO354.out BK370.out (by decide)) (fun _ hk => hk.2) (.int .i64 t366)) (fun _ hk => hk.2) (.slice Ao122 t367.length co122)) (fun _ h_ => h_.1))) hb); replace HO362 := mk_ (Kd.S_below (by (with_reducible repeat (first | apply Kd.S_alloc | apply Kd.S_drewN | apply Kd.S_drew)); exact (Kd.S_mono (Kd.S_far (p := ⟨gb370, 1, none⟩) (Kd.S_far (p := ⟨gb370, 0, none⟩) (Kd.S_types HO362.out BK370.out (by decide)) (fun _ hk => hk.2) (.int .i64 t366)) (fun _ hk => hk.2) (.slice Ao122 t367.length co122)) (fun _ h_ => h_.1))) hb); replace HO365 := mk_ (Kd.R_below (by (with_reducible repeat (first | apply Kd.R_alloc | apply Kd.R_drewN | apply Kd.R_drew)); exact (Kd.R_mono (Kd.R_far (p := ⟨gb370, 1, none⟩) (Kd.R_far (p := ⟨gb370, 0, none⟩) (Kd.R_types HO365.out BK370.out (by decide)) (fun _ hk => hk.2) (.int .i64 t366)) (fun _ hk => hk.2) (.slice Ao122 t367.length co122)) (fun _ h_ => h_.1))) hb); replace HB := mk_ (below_step (at_ HB.out) hb); (try clear HO358 HO369 BK345 BK370); (try clear hb); (try clear hb2); (try clear hk); (try clear hi)) | ((with_reducible refine gate_callee (f := 16) rfl ?_); refine goesL_ (some 54) rfl rfl Tryd.func16 (by kernel_rfl) rfl #[.slice A1 l1.length c1] rfl gl_ ?_; (with_reducible refine (laws_toClaimS.calls k _ _ l1 t372 _ ?side1 ?side2 A28.out).mono ?_); (case side1 => exact Kd.C_below (Kd.C_below HR1.out HB.out) lt_); (case side2 => exact HC1.out); rintro e w126 ⟨v373, rfl, ho0, hb⟩; refine ⟨_, rfl, ?_⟩; have HO374 := mk_ (Kd.S_lower (Kd.S_new' (Kd.S_new' (Kd.S_new' (Kd.S_new' ho0 (Kd.S_lt (Kd.S_below HO351.out lt_))) (Kd.R_lt (Kd.R_below HO354.out lt_))) (Kd.S_lt (Kd.S_below HO362.out lt_))) (Kd.R_lt (Kd.R_below HO365.out lt_))) (below_size (at_ HB.out))); replace HO354 := mk_ (Kd.R_below (Kd.R_below HO354.out lt_) hb); replace HO362 := mk_ (Kd.S_elder' (Kd.S_below HO362.out lt_) (Kd.S_base ho0) hb); replace HO365 := mk_ (Kd.R_below (Kd.R_below HO365.out lt_) hb); replace HB := mk_ (below_step (at_ HB.out) hb); (try clear HO351 HO358 HO369 BK345 BK370); (try clear hb); (try clear hb2); (try clear hk); (try clear hi); (try clear ho0); obtain ⟨Ao127, co127, eo127⟩ := Kd.S_slice HO374.out; subst eo127) | ((with_reducible refine gate_callee (f := 19) rfl ?_); refine goesL_ (some 55) rfl rfl Tryd.func19 (by kernel_rfl) rfl #[.slice Ao123 t360.length co123, .slice Ao127 t372.length co127] rfl gl_ ?_; (with_reducible refine (laws_eqClaimS.calls k _ _ t360 _ _ t372 true _ ?side1 ?side2 ?side3 ?side4 A29.out).mono ?_); (case side1 => exact Kd.C_below (Kd.S_reads' HO362.out).2.2 lt_); (case side2 => exact (Kd.S_reads' HO362.out).2.1); (case side3 => exact Kd.C_below (Kd.S_reads' HO374.out).2.2 lt_); (case side4 => exact (Kd.S_reads' HO374.out).2.1); rintro e w128 ⟨rfl, hb⟩; refine ⟨_, rfl, ?_⟩; replace HO354 := mk_ (Kd.R_below (Kd.R_below HO354.out lt_) hb); replace HO365 := mk_ (Kd.R_below (Kd.R_below HO365.out lt_) hb); replace HB := mk_ (below_step (at_ HB.out) hb); (try clear HO351 HO358 HO362 HO369 HO374 BK345 BK370); (try clear hb); (try clear hb2); (try clear hk); (try clear hi)) | ((with_reducible refine gate_callee (f := 17) rfl ?_); refine goesL_ (some 59) rfl rfl Tryd.func17 (by kernel_rfl) rfl #[.slice A2 l2.length c2] rfl gl_ ?_; (with_reducible refine (laws_toMarkS.calls k _ _ l2 t376 _ ?side1 ?side2 A31.out).mono ?_); (case side1 => exact Kd.C_below (Kd.C_below HR2.out HB.out) lt_); (case side2 => exact HC2.out); rintro e w129 ⟨v377, rfl, ho0, hb⟩; refine ⟨_, rfl, ?_⟩; have HO378 := mk_ (Kd.R_lower (Kd.R_new' (Kd.R_new' ho0 (Kd.R_lt (Kd.R_below HO354.out lt_))) (Kd.R_lt (Kd.R_below HO365.out lt_))) (below_size (at_ HB.out))); replace HO365 := mk_ (Kd.R_elder' (Kd.R_below HO365.out lt_) (Kd.R_base ho0) hb); replace HB := mk_ (below_step (at_ HB.out) hb); (try clear HO351 HO354 HO358 HO362 HO369 HO374 BK345 BK370); (try clear hb); (try clear hb2); (try clear hk); (try clear hi); (try clear ho0); obtain ⟨Ao130, co130, eo130⟩ := Kd.R_slice HO378.out; subst eo130) | ((with_reducible refine gate_callee (f := 20) rfl ?_); refine goesL_ (some 60) rfl rfl Tryd.func20 (by kernel_rfl) rfl #[.slice Ao124 t363.length co124, .slice Ao130 t376.length co130] rfl gl_ ?_; (with_reducible refine (laws_eqMarkS.calls k _ _ t363 _ _ t376 false _ ?side1 ?side2 ?side3 ?side4 A32.out).mono ?_); (case side1 => exact Kd.C_below (Kd.R_reads' HO365.out).2.2 lt_); (case side2 => exact (Kd.R_reads' HO365.out).2.1); (case side3 => exact Kd.C_below (Kd.R_reads' HO378.out).2.2 lt_); (case side4 => exact (Kd.R_reads' HO378.out).2.1); rintro e w131 ⟨rfl, hb⟩; refine ⟨_, rfl, ?_⟩; replace HB := mk_ (below_step (at_ HB.out) hb); (try clear HO351 HO354 HO358 HO362 HO365 HO369 HO374 HO378 BK345 BK370); (try clear hb); (try clear hb2); (try clear hk); (try clear hi)))
  go_ret
  exact ⟨er_, at_ HB.out⟩
 subst c33
 rw [if_pos rfl] at H
 replace H := Option.bind_eq_some_iff.mp H
 obtain ⟨⟨t380, t381⟩, A340, H⟩ := H
 try dsimp only at H
 have A34 := mk_ A340
 clear A340
 replace H := Option.bind_eq_some_iff.mp H
 obtain ⟨t384, A350, H⟩ := H
 try dsimp only at H
 have A35 := mk_ A350
 clear A350
 by_cases c36 : t384 = true
 ·subst c36
  rw [if_pos rfl] at H
  obtain rfl := Option.some.inj H
  go_enter Tryd.func4, Tryd.ntmps4
  try go_wp2_with (first | ((with_reducible refine gate_dst (N := 7) rfl ?_); refine box_event ?hg (N := 7) ?hd (cs := #[.int .i64 a3_0, .slice A3_1 l3_1.length c3_1]) (t := 40) ?hr ?_; (case hd => rfl); (case hg => rfl); (case hr => first | (go_simp; done) | (go_simp; rfl)); intro gb345 hg w37 hbox hb; have BK345 := mk_ (hbox); have GW345 := mk_ (gb_ hg HB.out); have GE345 := mk_ (gb_ hg HB.out); replace HB := mk_ (below_step (below_at HB.out) hb); clear hb hbox hg) | ((with_reducible refine gate_callee (f := 13) rfl ?_); refine goesL_ (some 17) rfl rfl Tryd.func13 (by kernel_rfl) rfl #[.slice A1 l1.length c1, .int .i64 1048576] rfl gl_ ?_; (with_reducible refine (laws_szClaimS.calls k _ _ l1 1048576 t346 _ ?side1 ?side2 A5.out).mono ?_); (case side1 => exact Kd.C_below (Kd.C_below HR1.out HB.out) lt_); (case side2 => exact HC1.out); rintro e w38 ⟨rfl, hb⟩; refine ⟨_, rfl, ?_⟩; replace BK345 := mk_ (blk_at BK345.out hb); replace HB := mk_ (below_step (at_ HB.out) hb); (try clear hb); (try clear hb2); (try clear hk); (try clear hi)) | ((with_reducible refine gate_callee (f := 14) rfl ?_); refine goesL_ (some 22) rfl rfl Tryd.func14 (by kernel_rfl) rfl #[.slice A2 l2.length c2, .int .i64 t346] rfl gl_ ?_; (with_reducible refine (laws_szMarkS.calls _ _ l2 t346 t347 _ ?side1 ?side2 A9.out).mono ?_); (case side1 => exact Kd.C_below (Kd.C_below HR2.out HB.out) lt_); (case side2 => exact HC2.out); rintro e w' ⟨rfl, ⟨nd, rfl⟩⟩; refine ⟨_, rfl, ?_⟩; (try (rw [drewN_self w38]; generalize hq_ : World.drewN w38 _ = w38; have n0_ : Aside0 (w38.heap[gb345]? = some (.cells #[.int .i64 a3_0, .slice A3_1 l3_1.length c3_1] 40 (0, 0))) := ⟨by rw [← hq_]; exact (bk_ BK345.out)⟩; have n1_ : Aside0 (Below w.heap.size w w38) := ⟨by rw [← hq_]; exact (at_ HB.out)⟩; clear BK345 HB hq_; have BK345 := n0_; have HB := n1_; clear n0_ n1_)); have hcz39_0 := blk_cell BK345.out 0; have hcz39_1 := blk_cell BK345.out 1; have hfz39_0 := blk_frozen BK345.out 0; have hfz39_1 := blk_frozen BK345.out 1) | ((with_reducible refine gate_callee (f := 15) rfl ?_); refine goesL_ (some 27) rfl rfl Tryd.func15 (by kernel_rfl) rfl #[.agg #[.int .i64 a3_0, .slice A3_1 l3_1.length c3_1], .int .i64 t347] rfl gl_ ?_; (with_reducible refine (laws_szProof.calls a3_0 _ _ l3_1 t347 t348 _ ?side1 ?side2 A13.out).mono ?_); (case side1 => exact Kd.C_below (Kd.C_below HR3_1.out HB.out) lt_); (case side2 => exact HC3_1.out); rintro e w40 ⟨rfl, hb⟩; refine ⟨_, rfl, ?_⟩; replace BK345 := mk_ (blk_at BK345.out hb); replace HB := mk_ (below_step (at_ HB.out) hb); (try clear hb); (try clear hb2); (try clear hk); (try clear hi)))
  replace BK345 := mk_ (blk_drew BK345.out)
  replace HB := mk_ (below_drew1 HB.out)
  refine start_ (n := 9) (S := fun w' => w'.cell? ⟨gb345, 0, none⟩ = some (.int .i64 a3_0) ∧ w'.cell? ⟨gb345, 1, none⟩ = some (.slice A3_1 l3_1.length c3_1)) (ds := []) #[false, false, false, false, false, false, false, false, false] (by kernel_rfl) rfl rfl ⟨(blk_cell BK345.out 0).trans rfl, (blk_cell BK345.out 1).trans rfl⟩ (fun hHeld => ?_); refine with_tabW laws_FnExactProofText.tab11 laws_FnExactProofText.bits11 (fun HT_ HW_ => ?_)
  generalize w40.drew = w41 at BK345 HB hHeld ⊢
  refine pure_ (i := 0) (N := some 30) (v := ?_) (a' := ?_) #[true, false, false, false, false, false, false, false, false] rfl rfl (any_of HT_.out (by kernel_rfl)) (fun _ _ _ h => h) (Or.inl ⟨by rfl, ?_⟩) ?_ ?_
  rotate_left
  ·intro w'
   go_simp
   with_reducible rfl
  rotate_left
  ·simp only [Act.put, z0_, z1_, z2_, i64_w, i32_w]
   rfl
  refine pure_ (i := 1) (N := some 31) (v := ?_) (a' := ?_) #[true, true, false, false, false, false, false, false, false] rfl rfl (any_of HT_.out (by kernel_rfl)) (fun _ _ _ h => h) (Or.inl ⟨by rfl, ?_⟩) ?_ ?_
  rotate_left
  ·intro w'
   go_simp
   with_reducible rfl
  rotate_left
  ·simp only [Act.put, z0_, z1_, z2_, i64_w, i32_w]
   rfl
  refine pure_ (i := 3) (N := some 33) (v := ?_) (a' := ?_) #[true, true, false, true, false, false, false, false, false] rfl rfl (any_of HT_.out (by kernel_rfl)) (fun _ _ _ h => h) (Or.inl ⟨by rfl, ?_⟩) ?_ ?_
  rotate_left
  ·intro w'
   go_simp
   with_reducible rfl
  rotate_left
  ·simp only [Act.put, z0_, z1_, z2_, i64_w, i32_w]
   rfl
  refine take_ (i := 5) (N := some 35) (v := ?_) (a' := ?_) #[true, true, false, true, false, true, false, false, false] rfl rfl (take_ofW HT_.out HW_.out (by kernel_rfl)) (fun _ _ _ h => h) (Or.inl ⟨by rfl, ?_⟩) hHeld ?_ ?_
  rotate_left
  ·rintro w' ⟨s0, s1⟩
   go_simp
   with_reducible rfl
  rotate_left
  ·simp only [Act.put, z0_, z1_, z2_, i64_w, i32_w]
   rfl
  refine one_ (i := 2) (N := some 32) #[true, true, true, true, false, true, false, false, false] rfl rfl (one_of HT_.out (by kernel_rfl)) (by decide) (fun K hK => ?_)
  refine goes_ Tryd.func16 (by kernel_rfl) rfl #[.slice A1 l1.length c1] (by rfl) rfl rfl gl_ ?_
  with_reducible refine (laws_toClaimS.calls k _ _ l1 t349 _ ?side1 ?side2 A19.out).mono ?_
  (case side1 => exact Kd.C_below (Kd.C_below HR1.out HB.out) lt_)
  (case side2 => exact HC1.out)
  rintro e w42 ⟨v350, rfl, ho0, hb⟩
  refine ⟨_, rfl, ?_⟩
  have HO351 := mk_ (Kd.S_lower ho0 (below_size (at_ HB.out)))
  replace BK345 := mk_ (blk_at BK345.out hb)
  replace HB := mk_ (below_step (at_ HB.out) hb)
  (try clear hb)
  (try clear hb2)
  (try clear hk)
  (try clear hi)
  (try clear ho0)
  refine hK.out _ _ ⟨(blk_cell BK345.out 0).trans rfl, (blk_cell BK345.out 1).trans rfl⟩ (fun hHeld => ?_)
  clear hK K
  refine norm_ (a' := ?_) ?_ ?_
  rotate_left
  ·show Act.put _ (some 32) _ = _
   simp only [Act.put, z0_, z1_, z2_, i64_w, i32_w]
   rfl
  refine one_ (i := 4) (N := some 34) #[true, true, true, true, true, true, false, false, false] rfl rfl (one_of HT_.out (by kernel_rfl)) (by decide) (fun K hK => ?_)
  refine goes_ Tryd.func17 (by kernel_rfl) rfl #[.slice A2 l2.length c2] (by rfl) rfl rfl gl_ ?_
  with_reducible refine (laws_toMarkS.calls k _ _ l2 t352 _ ?side1 ?side2 A20.out).mono ?_
  (case side1 => exact Kd.C_below (Kd.C_below HR2.out HB.out) lt_)
  (case side2 => exact HC2.out)
  rintro e w43 ⟨v353, rfl, ho0, hb⟩
  refine ⟨_, rfl, ?_⟩
  replace HO351 := mk_ (Kd.S_elder' (Kd.S_below HO351.out lt_) (Kd.R_base ho0) hb)
  have HO354 := mk_ (Kd.R_lower ho0 (below_size (at_ HB.out)))
  replace BK345 := mk_ (blk_at BK345.out hb)
  replace HB := mk_ (below_step (at_ HB.out) hb)
  (try clear hb)
  (try clear hb2)
  (try clear hk)
  (try clear hi)
  (try clear ho0)
  refine hK.out _ _ ⟨(blk_cell BK345.out 0).trans rfl, (blk_cell BK345.out 1).trans rfl⟩ (fun hHeld => ?_)
  clear hK K
  refine norm_ (a' := ?_) ?_ ?_
  rotate_left
  ·show Act.put _ (some 34) _ = _
   simp only [Act.put, z0_, z1_, z2_, i64_w, i32_w]
   rfl
  refine one_ (i := 6) (N := some 36) #[true, true, true, true, true, true, true, false, false] rfl rfl (one_of HT_.out (by kernel_rfl)) (by decide) (fun K hK => ?_)
  refine goes_ Tryd.func18 (by kernel_rfl) rfl #[.agg #[.int .i64 a3_0, .slice A3_1 l3_1.length c3_1]] (by rfl) rfl rfl gl_ ?_
  with_reducible refine (laws_toProof.calls k a3_0 _ _ l3_1 t355 t356 _ ?side1 ?side2 A21.out).mono ?_
  (case side1 => exact Kd.C_below (Kd.C_below HR3_1.out HB.out) lt_)
  (case side2 => exact HC3_1.out)
  rintro e w44 ⟨v357, rfl, ho0, hb⟩
  refine ⟨_, rfl, ?_⟩
  replace HO351 := mk_ (Kd.S_below (Kd.S_below HO351.out lt_) hb)
  replace HO354 := mk_ (Kd.R_below (Kd.R_below HO354.out lt_) hb)
  have HO358 := mk_ (Kd.R_lower ho0 (below_size (at_ HB.out)))
  replace BK345 := mk_ (blk_at BK345.out hb)
  replace HB := mk_ (below_step (at_ HB.out) hb)
  (try clear hb)
  (try clear hb2)
  (try clear hk)
  (try clear hi)
  (try clear ho0)
  obtain ⟨Ao45, co45, eo45⟩ := Kd.S_slice HO351.out
  (first | subst eo45 | (injection eo45 with f1_ f2_ f3_; have f4_ := f1_.symm; have f5_ := f3_.symm; clear f1_ f2_ f3_; subst f4_; subst f5_))
  obtain ⟨Ao46, co46, eo46⟩ := Kd.R_slice HO354.out
  (first | subst eo46 | (injection eo46 with f1_ f2_ f3_; have f4_ := f1_.symm; have f5_ := f3_.symm; clear f1_ f2_ f3_; subst f4_; subst f5_))
  obtain ⟨Ao47, co47, eo47⟩ := Kd.R_slice HO358.out
  (first | subst eo47 | (injection eo47 with f1_ f2_ f3_; have f4_ := f1_.symm; have f5_ := f3_.symm; clear f1_ f2_ f3_; subst f4_; subst f5_))
  refine hK.out _ _ ⟨(blk_cell BK345.out 0).trans rfl, (blk_cell BK345.out 1).trans rfl⟩ (fun hHeld => ?_)
  clear hK K
  refine norm_ (a' := ?_) ?_ ?_
  rotate_left
  ·show Act.put _ (some 36) _ = _
   simp only [Act.put, z0_, z1_, z2_, i64_w, i32_w]
   rfl
  refine one_ (i := 7) (N := some 37) #[true, true, true, true, true, true, true, true, false] rfl rfl (one_of HT_.out (by kernel_rfl)) (by decide) (fun K hK => ?_)
  refine goes_ Tryd.func9 (by kernel_rfl) rfl #[.int .i64 a0, .slice Ao45 t349.length co45, .slice Ao46 t352.length co46, .agg #[.int .i64 t355, .slice Ao47 t356.length co47]] (by rfl) rfl rfl gl_ ?_
  with_reducible refine (spec_ProofText.calls k a0 _ _ t349 _ _ t352 t355 _ _ t356 t359 _ ?side1 ?side2 ?side3 ?side4 ?side5 ?side6 A22.out).mono ?_
  (case side1 => exact Kd.C_below (Kd.S_reads' HO351.out).2.2 lt_)
  (case side2 => exact (Kd.S_reads' HO351.out).2.1)
  (case side3 => exact Kd.C_below (Kd.R_reads' HO354.out).2.2 lt_)
  (case side4 => exact (Kd.R_reads' HO354.out).2.1)
  (case side5 => exact Kd.C_below (Kd.R_reads' HO358.out).2.2 lt_)
  (case side6 => exact (Kd.R_reads' HO358.out).2.1)
  rintro e w48 ⟨rfl, hb⟩
  refine ⟨_, rfl, ?_⟩
  replace HO351 := mk_ (Kd.S_below (Kd.S_below HO351.out lt_) hb)
  replace HO354 := mk_ (Kd.R_below (Kd.R_below HO354.out lt_) hb)
  replace HO358 := mk_ (Kd.R_below (Kd.R_below HO358.out lt_) hb)
  replace BK345 := mk_ (blk_at BK345.out hb)
  replace HB := mk_ (below_step (at_ HB.out) hb)
  (try clear hb)
  (try clear hb2)
  (try clear hk)
  (try clear hi)
  refine hK.out _ _ ⟨(blk_cell BK345.out 0).trans rfl, (blk_cell BK345.out 1).trans rfl⟩ (fun hHeld => ?_)
  clear hK K
  refine norm_ (a' := ?_) ?_ ?_
  rotate_left
  ·show Act.put _ (some 37) _ = _
   simp only [Act.put, z0_, z1_, z2_, i64_w, i32_w]
   rfl
  refine pure_ (i := 8) (N := some 10) (v := ?_) (a' := ?_) #[true, true, true, true, true, true, true, true, true] rfl rfl (any_of HT_.out (by kernel_rfl)) (fun _ _ _ h => h) (Or.inl ⟨by rfl, ?_⟩) ?_ ?_
  rotate_left
  ·intro w'
   go_simp
   with_reducible rfl
  rotate_left
  ·simp only [Act.put, z0_, z1_, z2_, i64_w, i32_w]
   rfl
  refine done_ (done_of HT_.out (by kernel_rfl)) ?_
  try go_wp2_with (first | ((with_reducible refine gate_callee (f := 16) rfl ?_); refine goesL_ (some 39) rfl rfl Tryd.func16 (by kernel_rfl) rfl #[.slice A1 l1.length c1] rfl gl_ ?_; (with_reducible refine (laws_toClaimS.calls k _ _ l1 t360 _ ?side1 ?side2 A23.out).mono ?_); (case side1 => exact Kd.C_below (Kd.C_below HR1.out HB.out) lt_); (case side2 => exact HC1.out); rintro e w49 ⟨v361, rfl, ho0, hb⟩; refine ⟨_, rfl, ?_⟩; replace HO358 := mk_ (Kd.R_below (Kd.R_below HO358.out lt_) hb); have HO362 := mk_ (Kd.S_lower (Kd.S_new' (Kd.S_new' ho0 (Kd.S_lt (Kd.S_below HO351.out lt_))) (Kd.R_lt (Kd.R_below HO354.out lt_))) (below_size (at_ HB.out))); replace HO351 := mk_ (Kd.S_elder' (Kd.S_below HO351.out lt_) (Kd.S_base ho0) hb); replace HO354 := mk_ (Kd.R_below (Kd.R_below HO354.out lt_) hb); replace BK345 := mk_ (blk_at BK345.out hb); replace HB := mk_ (below_step (at_ HB.out) hb); (try clear hb); (try clear hb2); (try clear hk); (try clear hi); (try clear ho0)) | ((with_reducible refine gate_callee (f := 17) rfl ?_); refine goesL_ (some 41) rfl rfl Tryd.func17 (by kernel_rfl) rfl #[.slice A2 l2.length c2] rfl gl_ ?_; (with_reducible refine (laws_toMarkS.calls k _ _ l2 t363 _ ?side1 ?side2 A24.out).mono ?_); (case side1 => exact Kd.C_below (Kd.C_below HR2.out HB.out) lt_); (case side2 => exact HC2.out); rintro e w50 ⟨v364, rfl, ho0, hb⟩; refine ⟨_, rfl, ?_⟩; replace HO351 := mk_ (Kd.S_elder' (Kd.S_below HO351.out lt_) (Kd.R_base ho0) hb); replace HO358 := mk_ (Kd.R_below (Kd.R_below HO358.out lt_) hb); replace HO362 := mk_ (Kd.S_elder' (Kd.S_below HO362.out lt_) (Kd.R_base ho0) hb); have HO365 := mk_ (Kd.R_lower (Kd.R_new' ho0 (Kd.R_lt (Kd.R_below HO354.out lt_))) (below_size (at_ HB.out))); replace HO354 := mk_ (Kd.R_elder' (Kd.R_below HO354.out lt_) (Kd.R_base ho0) hb); replace BK345 := mk_ (blk_at BK345.out hb); replace HB := mk_ (below_step (at_ HB.out) hb); (try clear hb); (try clear hb2); (try clear hk); (try clear hi); (try clear ho0); have hcz51_0 := blk_cell BK345.out 0; have hcz51_1 := blk_cell BK345.out 1; have hfz51_0 := blk_frozen BK345.out 0; have hfz51_1 := blk_frozen BK345.out 1) | ((with_reducible refine gate_callee (f := 18) rfl ?_); refine goesL_ (some 43) rfl rfl Tryd.func18 (by kernel_rfl) rfl #[.agg #[.int .i64 a3_0, .slice A3_1 l3_1.length c3_1]] rfl gl_ ?_; (with_reducible refine (laws_toProof.calls k a3_0 _ _ l3_1 t366 t367 _ ?side1 ?side2 A25.out).mono ?_); (case side1 => exact Kd.C_below (Kd.C_below HR3_1.out HB.out) lt_); (case side2 => exact HC3_1.out); rintro e w52 ⟨v368, rfl, ho0, hb⟩; refine ⟨_, rfl, ?_⟩; replace HO351 := mk_ (Kd.S_below (Kd.S_below HO351.out lt_) hb); replace HO354 := mk_ (Kd.R_below (Kd.R_below HO354.out lt_) hb); replace HO362 := mk_ (Kd.S_below (Kd.S_below HO362.out lt_) hb); replace HO365 := mk_ (Kd.R_below (Kd.R_below HO365.out lt_) hb); have HO369 := mk_ (Kd.R_lower (Kd.R_new' ho0 (Kd.R_lt (Kd.R_below HO358.out lt_))) (below_size (at_ HB.out))); replace HO358 := mk_ (Kd.R_elder' (Kd.R_below HO358.out lt_) (Kd.R_base ho0) hb); replace BK345 := mk_ (blk_at BK345.out hb); replace HB := mk_ (below_step (at_ HB.out) hb); (try clear hb); (try clear hb2); (try clear hk); (try clear hi); (try clear ho0)) | ((with_reducible refine gate_dst (N := 13) rfl ?_); refine box_event ?hg (N := 13) ?hd (cs := #[.int .i64 0, .slice none 0 0]) (t := 27) ?hr ?_; (case hd => rfl); (case hg => rfl); (case hr => first | (go_simp; done) | (go_simp; rfl)); intro gb370 hg w53 hbox hb; replace HO351 := mk_ (Kd.S_below (Kd.S_below HO351.out lt_) hb); replace HO354 := mk_ (Kd.R_below (Kd.R_below HO354.out lt_) hb); replace HO358 := mk_ (Kd.R_below (Kd.R_below HO358.out lt_) hb); replace HO362 := mk_ (Kd.S_below (Kd.S_below HO362.out lt_) hb); replace HO365 := mk_ (Kd.R_below (Kd.R_below HO365.out lt_) hb); replace HO369 := mk_ (Kd.R_below (Kd.R_below HO369.out lt_) hb); have BK370 := mk_ (hbox); have GW370 := mk_ ((by rw [hg]; exact (below_size (at_ HB.out)) : w.heap.size ≤ gb370)); have GE370 := mk_ ((by rw [hg]; exact (below_size (at_ HB.out)) : w.heap.size ≤ gb370)); replace HB := mk_ (below_step (at_ HB.out) hb); have NB345_370 := mk_ ((by rw [hg]; exact Nat.ne_of_lt (blk_lt (g := gb345) (o := .cells #[.int .i64 a3_0, .slice A3_1 l3_1.length c3_1] 40 (0, 0)) (bk_ BK345.out)) : gb345 ≠ gb370)); have NB370_345 := mk_ ((by rw [hg]; exact Nat.ne_of_gt (blk_lt (g := gb345) (o := .cells #[.int .i64 a3_0, .slice A3_1 l3_1.length c3_1] 40 (0, 0)) (bk_ BK345.out)) : gb370 ≠ gb345)); replace BK345 := mk_ (blk_at BK345.out hb); clear hb hbox hg; have hnb54 := NB370_345.out; have hnc54 := NB345_370.out; have hcz55_0 := blk_cell BK370.out 0; have hcz55_1 := blk_cell BK370.out 1; have hfz55_0 := blk_frozen BK370.out 0; have hfz55_1 := blk_frozen BK370.out 1; obtain ⟨Ao56, co56, eo56⟩ := Kd.R_slice HO369.out; subst eo56; obtain ⟨Ao57, co57, eo57⟩ := Kd.S_slice HO362.out; subst eo57; obtain ⟨Ao58, co58, eo58⟩ := Kd.R_slice HO365.out; subst eo58) | ((with_reducible refine gate_callee (f := 8) rfl ?_); refine goesL_ (some 48) rfl rfl Tryd.func8 (by kernel_rfl) rfl #[.int .i64 a0, .slice Ao57 t360.length co57, .slice Ao58 t363.length co58, .agg #[.int .i64 t366, .slice Ao56 t367.length co56]] rfl gl_ ?_; (with_reducible refine (impl_ProofText.calls k a0 _ _ t360 _ _ t363 t366 _ _ t367 t371 _ ?side1 ?side2 ?side3 ?side4 ?side5 ?side6 A26.out).mono ?_); (case side1 => refine (Kd.S_reads' (e := 79) (base := w.heap.size) (ok := fun k_ => (((True ∧ some k_ ≠ (.slice Ao45 t349.length co45 : Value).ownBlock) ∧ some k_ ≠ (.slice Ao46 t352.length co46 : Value).ownBlock) ∧ some k_ ≠ (.slice Ao58 t363.length co58 : Value).ownBlock)) (n := t360.length) (c := co57) ?_).2.2; exact (by (with_reducible repeat (first | apply Kd.S_alloc | apply Kd.S_drewN | apply Kd.S_drew)); exact (Kd.S_mono (Kd.S_far (p := ⟨gb370, 1, none⟩) (Kd.S_far (p := ⟨gb370, 0, none⟩) (Kd.S_types HO362.out BK370.out (by decide)) (fun _ hk => hk.2) (.int .i64 t366)) (fun _ hk => hk.2) (.slice Ao56 t367.length co56)) (fun _ h_ => h_.1)))); (case side2 => exact (Kd.S_reads' HO362.out).2.1); (case side3 => refine (Kd.R_reads' (e := 82) (base := w.heap.size) (ok := fun k_ => (True ∧ some k_ ≠ (.slice Ao46 t352.length co46 : Value).ownBlock)) (n := t363.length) (c := co58) ?_).2.2; exact (by (with_reducible repeat (first | apply Kd.R_alloc | apply Kd.R_drewN | apply Kd.R_drew)); exact (Kd.R_mono (Kd.R_far (p := ⟨gb370, 1, none⟩) (Kd.R_far (p := ⟨gb370, 0, none⟩) (Kd.R_types HO365.out BK370.out (by decide)) (fun _ hk => hk.2) (.int .i64 t366)) (fun _ hk => hk.2) (.slice Ao56 t367.length co56)) (fun _ h_ => h_.1)))); (case side4 => exact (Kd.R_reads' HO365.out).2.1); (case side5 => refine (Kd.R_reads' (e := 68) (base := w.heap.size) (ok := fun k_ => (True ∧ some k_ ≠ (.slice Ao47 t356.length co47 : Value).ownBlock)) (n := t367.length) (c := co56) ?_).2.2; exact (by (with_reducible repeat (first | apply Kd.R_alloc | apply Kd.R_drewN | apply Kd.R_drew)); exact (Kd.R_mono (Kd.R_far (p := ⟨gb370, 1, none⟩) (Kd.R_far (p := ⟨gb370, 0, none⟩) (Kd.R_types HO369.out BK370.out (by decide)) (fun _ hk => hk.2) (.int .i64 t366)) (fun _ hk => hk.2) (.slice Ao56 t367.length co56)) (fun _ h_ => h_.1)))); (case side6 => exact (Kd.R_reads' HO369.out).2.1); rintro e w59 ⟨rfl, hb⟩; refine ⟨_, rfl, ?_⟩; replace HO351 := mk_ (Kd.S_below (by (with_reducible repeat (first | apply Kd.S_alloc | apply Kd.S_drewN | apply Kd.S_drew)); exact (Kd.S_mono (Kd.S_far (p := ⟨gb370, 1, none⟩) (Kd.S_far (p := ⟨gb370, 0, none⟩) (Kd.S_types HO351.out BK370.out (by decide)) (fun _ hk => hk.2) (.int .i64 t366)) (fun _ hk => hk.2) (.slice Ao56 t367.length co56)) (fun _ h_ => h_.1))) hb); replace HO354 := mk_ (Kd.R_below (by (with_reducible repeat (first | apply Kd.R_alloc | apply Kd.R_drewN | apply Kd.R_drew)); exact (Kd.R_mono (Kd.R_far (p := ⟨gb370, 1, none⟩) (Kd.R_far (p := ⟨gb370, 0, none⟩) (Kd.R_types HO354.out BK370.out (by decide)) (fun _ hk => hk.2) (.int .i64 t366)) (fun _ hk => hk.2) (.slice Ao56 t367.length co56)) (fun _ h_ => h_.1))) hb); replace HO358 := mk_ (Kd.R_below (by (with_reducible repeat (first | apply Kd.R_alloc | apply Kd.R_drewN | apply Kd.R_drew)); exact (Kd.R_mono (Kd.R_far (p := ⟨gb370, 1, none⟩) (Kd.R_far (p := ⟨gb370, 0, none⟩) (Kd.R_types HO358.out BK370.out (by decide)) (fun _ hk => hk.2) (.int .i64 t366)) (fun _ hk => hk.2) (.slice Ao56 t367.length co56)) (fun _ h_ => h_.1))) hb); replace HO362 := mk_ (Kd.S_below (by (with_reducible repeat (first | apply Kd.S_alloc | apply Kd.S_drewN | apply Kd.S_drew)); exact (Kd.S_mono (Kd.S_far (p := ⟨gb370, 1, none⟩) (Kd.S_far (p := ⟨gb370, 0, none⟩) (Kd.S_types HO362.out BK370.out (by decide)) (fun _ hk => hk.2) (.int .i64 t366)) (fun _ hk => hk.2) (.slice Ao56 t367.length co56)) (fun _ h_ => h_.1))) hb); replace HO365 := mk_ (Kd.R_below (by (with_reducible repeat (first | apply Kd.R_alloc | apply Kd.R_drewN | apply Kd.R_drew)); exact (Kd.R_mono (Kd.R_far (p := ⟨gb370, 1, none⟩) (Kd.R_far (p := ⟨gb370, 0, none⟩) (Kd.R_types HO365.out BK370.out (by decide)) (fun _ hk => hk.2) (.int .i64 t366)) (fun _ hk => hk.2) (.slice Ao56 t367.length co56)) (fun _ h_ => h_.1))) hb); replace HO369 := mk_ (Kd.R_below (by (with_reducible repeat (first | apply Kd.R_alloc | apply Kd.R_drewN | apply Kd.R_drew)); exact (Kd.R_mono (Kd.R_far (p := ⟨gb370, 1, none⟩) (Kd.R_far (p := ⟨gb370, 0, none⟩) (Kd.R_types HO369.out BK370.out (by decide)) (fun _ hk => hk.2) (.int .i64 t366)) (fun _ hk => hk.2) (.slice Ao56 t367.length co56)) (fun _ h_ => h_.1))) hb); replace BK345 := mk_ (blk_below (g := gb345) (o := .cells #[.int .i64 a3_0, .slice A3_1 l3_1.length c3_1] 40 (0, 0)) (by (with_reducible repeat (first | refine blk_drewN ?_ _ | refine blk_drew ?_ | refine blk_alloc ?_ _)); refine blk_far ?_ NB345_370.out _; (with_reducible repeat (first | refine blk_drewN ?_ _ | refine blk_drew ?_ | refine blk_alloc ?_ _)); refine blk_far ?_ NB345_370.out _; (with_reducible repeat (first | refine blk_drewN ?_ _ | refine blk_drew ?_ | refine blk_alloc ?_ _)); exact BK345.out) hb); replace BK370 := mk_ (blk_below (g := gb370) (o := .cells #[.int .i64 t366, .slice Ao56 t367.length co56] 27 (0, 0)) (by (with_reducible repeat (first | refine blk_drewN ?_ _ | refine blk_drew ?_ | refine blk_alloc ?_ _)); refine blk_put (cs := #[.int .i64 t366, .slice none 0 0]) ?_ 1 _ rfl; (with_reducible repeat (first | refine blk_drewN ?_ _ | refine blk_drew ?_ | refine blk_alloc ?_ _)); refine blk_put (cs := #[.int .i64 0, .slice none 0 0]) ?_ 0 _ rfl; (with_reducible repeat (first | refine blk_drewN ?_ _ | refine blk_drew ?_ | refine blk_alloc ?_ _)); exact BK370.out) hb); replace HB := mk_ (below_step (at_ HB.out) hb); (try clear hb); (try clear hb2); (try clear hk); (try clear hi)) | ((with_reducible refine gate_callee (f := 16) rfl ?_); refine goesL_ (some 54) rfl rfl Tryd.func16 (by kernel_rfl) rfl #[.slice A1 l1.length c1] rfl gl_ ?_; (with_reducible refine (laws_toClaimS.calls k _ _ l1 t372 _ ?side1 ?side2 A28.out).mono ?_); (case side1 => exact Kd.C_below (Kd.C_below HR1.out HB.out) lt_); (case side2 => exact HC1.out); rintro e w60 ⟨v373, rfl, ho0, hb⟩; refine ⟨_, rfl, ?_⟩; replace HO358 := mk_ (Kd.R_below (Kd.R_below HO358.out lt_) hb); replace HO369 := mk_ (Kd.R_below (Kd.R_below HO369.out lt_) hb); have HO374 := mk_ (Kd.S_lower (Kd.S_new' (Kd.S_new' (Kd.S_new' (Kd.S_new' ho0 (Kd.S_lt (Kd.S_below HO351.out lt_))) (Kd.R_lt (Kd.R_below HO354.out lt_))) (Kd.S_lt (Kd.S_below HO362.out lt_))) (Kd.R_lt (Kd.R_below HO365.out lt_))) (below_size (at_ HB.out))); replace HO354 := mk_ (Kd.R_below (Kd.R_below HO354.out lt_) hb); replace HO362 := mk_ (Kd.S_elder' (Kd.S_below HO362.out lt_) (Kd.S_base ho0) hb); replace HO365 := mk_ (Kd.R_below (Kd.R_below HO365.out lt_) hb); replace BK345 := mk_ (blk_at BK345.out hb); replace BK370 := mk_ (blk_at BK370.out hb); replace HB := mk_ (below_step (at_ HB.out) hb); (try clear HO351); (try clear hb); (try clear hb2); (try clear hk); (try clear hi); (try clear ho0); obtain ⟨Ao61, co61, eo61⟩ := Kd.S_slice HO374.out; subst eo61) | ((with_reducible refine gate_callee (f := 19) rfl ?_); refine goesL_ (some 55) rfl rfl Tryd.func19 (by kernel_rfl) rfl #[.slice Ao57 t360.length co57, .slice Ao61 t372.length co61] rfl gl_ ?_; (with_reducible refine (laws_eqClaimS.calls k _ _ t360 _ _ t372 true _ ?side1 ?side2 ?side3 ?side4 A29.out).mono ?_); (case side1 => exact Kd.C_below (Kd.S_reads' HO362.out).2.2 lt_); (case side2 => exact (Kd.S_reads' HO362.out).2.1); (case side3 => exact Kd.C_below (Kd.S_reads' HO374.out).2.2 lt_); (case side4 => exact (Kd.S_reads' HO374.out).2.1); rintro e w62 ⟨rfl, hb⟩; refine ⟨_, rfl, ?_⟩; replace HO354 := mk_ (Kd.R_below (Kd.R_below HO354.out lt_) hb); replace HO358 := mk_ (Kd.R_below (Kd.R_below HO358.out lt_) hb); replace HO365 := mk_ (Kd.R_below (Kd.R_below HO365.out lt_) hb); replace HO369 := mk_ (Kd.R_below (Kd.R_below HO369.out lt_) hb); replace BK345 := mk_ (blk_at BK345.out hb); replace BK370 := mk_ (blk_at BK370.out hb); replace HB := mk_ (below_step (at_ HB.out) hb); (try clear HO351 HO362 HO374); (try clear hb); (try clear hb2); (try clear hk); (try clear hi)) | ((with_reducible refine gate_callee (f := 17) rfl ?_); refine goesL_ (some 59) rfl rfl Tryd.func17 (by kernel_rfl) rfl #[.slice A2 l2.length c2] rfl gl_ ?_; (with_reducible refine (laws_toMarkS.calls k _ _ l2 t376 _ ?side1 ?side2 A31.out).mono ?_); (case side1 => exact Kd.C_below (Kd.C_below HR2.out HB.out) lt_); (case side2 => exact HC2.out); rintro e w63 ⟨v377, rfl, ho0, hb⟩; refine ⟨_, rfl, ?_⟩; replace HO358 := mk_ (Kd.R_below (Kd.R_below HO358.out lt_) hb); replace HO369 := mk_ (Kd.R_below (Kd.R_below HO369.out lt_) hb); have HO378 := mk_ (Kd.R_lower (Kd.R_new' (Kd.R_new' ho0 (Kd.R_lt (Kd.R_below HO354.out lt_))) (Kd.R_lt (Kd.R_below HO365.out lt_))) (below_size (at_ HB.out))); replace HO365 := mk_ (Kd.R_elder' (Kd.R_below HO365.out lt_) (Kd.R_base ho0) hb); replace BK345 := mk_ (blk_at BK345.out hb); replace BK370 := mk_ (blk_at BK370.out hb); replace HB := mk_ (below_step (at_ HB.out) hb); (try clear HO351 HO354 HO362 HO374); (try clear hb); (try clear hb2); (try clear hk); (try clear hi); (try clear ho0); obtain ⟨Ao64, co64, eo64⟩ := Kd.R_slice HO378.out; subst eo64) | ((with_reducible refine gate_callee (f := 20) rfl ?_); refine goesL_ (some 60) rfl rfl Tryd.func20 (by kernel_rfl) rfl #[.slice Ao58 t363.length co58, .slice Ao64 t376.length co64] rfl gl_ ?_; (with_reducible refine (laws_eqMarkS.calls k _ _ t363 _ _ t376 true _ ?side1 ?side2 ?side3 ?side4 A32.out).mono ?_); (case side1 => exact Kd.C_below (Kd.R_reads' HO365.out).2.2 lt_); (case side2 => exact (Kd.R_reads' HO365.out).2.1); (case side3 => exact Kd.C_below (Kd.R_reads' HO378.out).2.2 lt_); (case side4 => exact (Kd.R_reads' HO378.out).2.1); rintro e w65 ⟨rfl, hb⟩; refine ⟨_, rfl, ?_⟩; replace HO358 := mk_ (Kd.R_below (Kd.R_below HO358.out lt_) hb); replace HO369 := mk_ (Kd.R_below (Kd.R_below HO369.out lt_) hb); replace BK345 := mk_ (blk_at BK345.out hb); replace BK370 := mk_ (blk_at BK370.out hb); replace HB := mk_ (below_step (at_ HB.out) hb); (try clear HO351 HO354 HO362 HO365 HO374 HO378); (try clear hb); (try clear hb2); (try clear hk); (try clear hi)))
  replace HO358 := mk_ (Kd.R_drew HO358.out)
  replace HO369 := mk_ (Kd.R_drew HO369.out)
  replace BK345 := mk_ (blk_drew BK345.out)
  replace BK370 := mk_ (blk_drew BK370.out)
  replace HB := mk_ (below_drew1 HB.out)
  (try clear HO351 HO354 HO362 HO365 HO374 HO378)
  refine start_ (n := 5) (S := fun w' => w'.cell? ⟨gb370, 0, none⟩ = some (.int .i64 t366) ∧ w'.cell? ⟨gb370, 1, none⟩ = some (.slice Ao56 t367.length co56) ∧ w'.cell? ⟨gb345, 0, none⟩ = some (.int .i64 a3_0) ∧ w'.cell? ⟨gb345, 1, none⟩ = some (.slice A3_1 l3_1.length c3_1)) (ds := []) #[false, false, false, false, false] (by kernel_rfl) rfl rfl ⟨(blk_cell BK370.out 0).trans rfl, (blk_cell BK370.out 1).trans rfl, (blk_cell BK345.out 0).trans rfl, (blk_cell BK345.out 1).trans rfl⟩ (fun hHeld => ?_)
  generalize w65.drew = w66 at HO358 HO369 BK345 BK370 HB hHeld ⊢
  refine take_ (i := 0) (N := some 62) (v := ?_) (a' := ?_) #[true, false, false, false, false] rfl rfl (by kernel_rfl) (fun _ _ _ h => h) (Or.inl ⟨by rfl, ?_⟩) hHeld ?_ ?_
  rotate_left
  ·rintro w' ⟨s0, s1, s2, s3⟩
   go_simp
   with_reducible rfl
  rotate_left
  ·simp only [Act.put, z0_, z1_, z2_, i64_w, i32_w]
   rfl
  refine take_ (i := 1) (N := some 63) (v := ?_) (a' := ?_) #[true, true, false, false, false] rfl rfl (by kernel_rfl) (fun _ _ _ h => h) (Or.inl ⟨by rfl, ?_⟩) hHeld ?_ ?_
  rotate_left
  ·rintro w' ⟨s0, s1, s2, s3⟩
   go_simp
   with_reducible rfl
  rotate_left
  ·simp only [Act.put, z0_, z1_, z2_, i64_w, i32_w]
   rfl
  refine one_ (i := 2) (N := some 64) #[true, true, true, false, false] rfl rfl (by kernel_rfl) (by decide) (fun K hK => ?_)
  refine goes_ Tryd.func18 (by kernel_rfl) rfl #[.agg #[.int .i64 a3_0, .slice A3_1 l3_1.length c3_1]] (by rfl) rfl rfl gl_ ?_
  with_reducible refine (laws_toProof.calls k a3_0 _ _ l3_1 t380 t381 _ ?side1 ?side2 A34.out).mono ?_
  (case side1 => exact Kd.C_below (Kd.C_below HR3_1.out HB.out) lt_)
  (case side2 => exact HC3_1.out)
  rintro e w67 ⟨v382, rfl, ho0, hb⟩
  refine ⟨_, rfl, ?_⟩
  have HO383 := mk_ (Kd.R_lower (Kd.R_new' (Kd.R_new' ho0 (Kd.R_lt (Kd.R_below HO358.out lt_))) (Kd.R_lt (Kd.R_below HO369.out lt_))) (below_size (at_ HB.out)))
  replace HO369 := mk_ (Kd.R_elder' (Kd.R_below HO369.out lt_) (Kd.R_base ho0) hb)
  replace BK345 := mk_ (blk_at BK345.out hb)
  replace BK370 := mk_ (blk_at BK370.out hb)
  replace HB := mk_ (below_step (at_ HB.out) hb)
  (try clear HO351 HO354 HO358 HO362 HO365 HO374 HO378)
  (try clear hb)
  (try clear hb2)
  (try clear hk)
  (try clear hi)
  (try clear ho0)
  obtain ⟨Ao68, co68, eo68⟩ := Kd.R_slice HO383.out
  (first | subst eo68 | (injection eo68 with f1_ f2_ f3_; have f4_ := f1_.symm; have f5_ := f3_.symm; clear f1_ f2_ f3_; subst f4_; subst f5_))
  refine hK.out _ _ ⟨(blk_cell BK370.out 0).trans rfl, (blk_cell BK370.out 1).trans rfl, (blk_cell BK345.out 0).trans rfl, (blk_cell BK345.out 1).trans rfl⟩ (fun hHeld => ?_)
  clear hK K
  refine norm_ (a' := ?_) ?_ ?_
  rotate_left
  ·show Act.put _ (some 64) _ = _
   simp only [Act.put, z0_, z1_, z2_, i64_w, i32_w]
   rfl
  refine one_ (i := 3) (N := some 65) #[true, true, true, true, false] rfl rfl (by kernel_rfl) (by decide) (fun K hK => ?_)
  refine goes_ Tryd.func21 (by kernel_rfl) rfl #[.agg #[.int .i64 t366, .slice Ao56 t367.length co56], .agg #[.int .i64 t380, .slice Ao68 t381.length co68]] (by rfl) rfl rfl gl_ ?_
  with_reducible refine (laws_eqProof.calls k t366 _ _ t367 t380 _ _ t381 true _ ?side1 ?side2 ?side3 ?side4 A35.out).mono ?_
  (case side1 => exact Kd.C_below (Kd.R_reads' HO369.out).2.2 lt_)
  (case side2 => exact (Kd.R_reads' HO369.out).2.1)
  (case side3 => exact Kd.C_below (Kd.R_reads' HO383.out).2.2 lt_)
  (case side4 => exact (Kd.R_reads' HO383.out).2.1)
  rintro e w69 ⟨rfl, hb⟩
  refine ⟨_, rfl, ?_⟩
  replace BK345 := mk_ (blk_at BK345.out hb)
  replace BK370 := mk_ (blk_at BK370.out hb)
  replace HB := mk_ (below_step (at_ HB.out) hb)
  (try clear HO351 HO354 HO358 HO362 HO365 HO369 HO374 HO378 HO383)
  (try clear hb)
  (try clear hb2)
  (try clear hk)
  (try clear hi)
  refine hK.out _ _ ⟨(blk_cell BK370.out 0).trans rfl, (blk_cell BK370.out 1).trans rfl, (blk_cell BK345.out 0).trans rfl, (blk_cell BK345.out 1).trans rfl⟩ (fun hHeld => ?_)
  clear hK K
  refine norm_ (a' := ?_) ?_ ?_
  rotate_left
  ·show Act.put _ (some 65) _ = _
   simp only [Act.put, z0_, z1_, z2_, i64_w, i32_w]
   rfl
  refine pure_ (i := 4) (N := some 66) (v := ?_) (a' := ?_) #[true, true, true, true, true] rfl rfl (by kernel_rfl) (fun _ _ _ h => h) (Or.inl ⟨by rfl, ?_⟩) ?_ ?_
  rotate_left
  ·intro w'
   go_simp
   with_reducible rfl
  rotate_left
  ·simp only [Act.put, z0_, z1_, z2_, i64_w, i32_w]
   rfl
  refine done_ (by kernel_rfl) ?_
  try go_wp2
  go_ret
  exact ⟨er_, at_ HB.out⟩
 replace c36 := Bool.eq_false_iff.mpr c36
 subst c36
 rw [if_neg (show ¬ (false = true) by decide)] at H
 obtain rfl := Option.some.inj H
 go_enter Tryd.func4, Tryd.ntmps4
 try go_wp2_with (first | ((with_reducible refine gate_dst (N := 7) rfl ?_); refine box_event ?hg (N := 7) ?hd (cs := #[.int .i64 a3_0, .slice A3_1 l3_1.length c3_1]) (t := 40) ?hr ?_; (case hd => rfl); (case hg => rfl); (case hr => first | (go_simp; done) | (go_simp; rfl)); intro gb345 hg w70 hbox hb; have BK345 := mk_ (hbox); have GW345 := mk_ (gb_ hg HB.out); have GE345 := mk_ (gb_ hg HB.out); replace HB := mk_ (below_step (below_at HB.out) hb); clear hb hbox hg) | ((with_reducible refine gate_callee (f := 13) rfl ?_); refine goesL_ (some 17) rfl rfl Tryd.func13 (by kernel_rfl) rfl #[.slice A1 l1.length c1, .int .i64 1048576] rfl gl_ ?_; (with_reducible refine (laws_szClaimS.calls k _ _ l1 1048576 t346 _ ?side1 ?side2 A5.out).mono ?_); (case side1 => exact Kd.C_below (Kd.C_below HR1.out HB.out) lt_); (case side2 => exact HC1.out); rintro e w71 ⟨rfl, hb⟩; refine ⟨_, rfl, ?_⟩; replace BK345 := mk_ (blk_at BK345.out hb); replace HB := mk_ (below_step (at_ HB.out) hb); (try clear hb); (try clear hb2); (try clear hk); (try clear hi)) | ((with_reducible refine gate_callee (f := 14) rfl ?_); refine goesL_ (some 22) rfl rfl Tryd.func14 (by kernel_rfl) rfl #[.slice A2 l2.length c2, .int .i64 t346] rfl gl_ ?_; (with_reducible refine (laws_szMarkS.calls _ _ l2 t346 t347 _ ?side1 ?side2 A9.out).mono ?_); (case side1 => exact Kd.C_below (Kd.C_below HR2.out HB.out) lt_); (case side2 => exact HC2.out); rintro e w' ⟨rfl, ⟨nd, rfl⟩⟩; refine ⟨_, rfl, ?_⟩; (try (rw [drewN_self w71]; generalize hq_ : World.drewN w71 _ = w71; have n0_ : Aside0 (w71.heap[gb345]? = some (.cells #[.int .i64 a3_0, .slice A3_1 l3_1.length c3_1] 40 (0, 0))) := ⟨by rw [← hq_]; exact (bk_ BK345.out)⟩; have n1_ : Aside0 (Below w.heap.size w w71) := ⟨by rw [← hq_]; exact (at_ HB.out)⟩; clear BK345 HB hq_; have BK345 := n0_; have HB := n1_; clear n0_ n1_)); have hcz72_0 := blk_cell BK345.out 0; have hcz72_1 := blk_cell BK345.out 1; have hfz72_0 := blk_frozen BK345.out 0; have hfz72_1 := blk_frozen BK345.out 1) | ((with_reducible refine gate_callee (f := 15) rfl ?_); refine goesL_ (some 27) rfl rfl Tryd.func15 (by kernel_rfl) rfl #[.agg #[.int .i64 a3_0, .slice A3_1 l3_1.length c3_1], .int .i64 t347] rfl gl_ ?_; (with_reducible refine (laws_szProof.calls a3_0 _ _ l3_1 t347 t348 _ ?side1 ?side2 A13.out).mono ?_); (case side1 => exact Kd.C_below (Kd.C_below HR3_1.out HB.out) lt_); (case side2 => exact HC3_1.out); rintro e w73 ⟨rfl, hb⟩; refine ⟨_, rfl, ?_⟩; replace BK345 := mk_ (blk_at BK345.out hb); replace HB := mk_ (below_step (at_ HB.out) hb); (try clear hb); (try clear hb2); (try clear hk); (try clear hi)))
 replace BK345 := mk_ (blk_drew BK345.out)
 replace HB := mk_ (below_drew1 HB.out)
 refine start_ (n := 9) (S := fun w' => w'.cell? ⟨gb345, 0, none⟩ = some (.int .i64 a3_0) ∧ w'.cell? ⟨gb345, 1, none⟩ = some (.slice A3_1 l3_1.length c3_1)) (ds := []) #[false, false, false, false, false, false, false, false, false] (by kernel_rfl) rfl rfl ⟨(blk_cell BK345.out 0).trans rfl, (blk_cell BK345.out 1).trans rfl⟩ (fun hHeld => ?_); refine with_tabW laws_FnExactProofText.tab11 laws_FnExactProofText.bits11 (fun HT_ HW_ => ?_)
 generalize w73.drew = w74 at BK345 HB hHeld ⊢
 refine pure_ (i := 0) (N := some 30) (v := ?_) (a' := ?_) #[true, false, false, false, false, false, false, false, false] rfl rfl (any_of HT_.out (by kernel_rfl)) (fun _ _ _ h => h) (Or.inl ⟨by rfl, ?_⟩) ?_ ?_
 rotate_left
 ·intro w'
  go_simp
  with_reducible rfl
 rotate_left
 ·simp only [Act.put, z0_, z1_, z2_, i64_w, i32_w]
  rfl
 refine pure_ (i := 1) (N := some 31) (v := ?_) (a' := ?_) #[true, true, false, false, false, false, false, false, false] rfl rfl (any_of HT_.out (by kernel_rfl)) (fun _ _ _ h => h) (Or.inl ⟨by rfl, ?_⟩) ?_ ?_
 rotate_left
 ·intro w'
  go_simp
  with_reducible rfl
 rotate_left
 ·simp only [Act.put, z0_, z1_, z2_, i64_w, i32_w]
  rfl
 refine pure_ (i := 3) (N := some 33) (v := ?_) (a' := ?_) #[true, true, false, true, false, false, false, false, false] rfl rfl (any_of HT_.out (by kernel_rfl)) (fun _ _ _ h => h) (Or.inl ⟨by rfl, ?_⟩) ?_ ?_
 rotate_left
 ·intro w'
  go_simp
  with_reducible rfl
 rotate_left
 ·simp only [Act.put, z0_, z1_, z2_, i64_w, i32_w]
  rfl
 refine take_ (i := 5) (N := some 35) (v := ?_) (a' := ?_) #[true, true, false, true, false, true, false, false, false] rfl rfl (take_ofW HT_.out HW_.out (by kernel_rfl)) (fun _ _ _ h => h) (Or.inl ⟨by rfl, ?_⟩) hHeld ?_ ?_
 rotate_left
 ·rintro w' ⟨s0, s1⟩
  go_simp
  with_reducible rfl
 rotate_left
 ·simp only [Act.put, z0_, z1_, z2_, i64_w, i32_w]
  rfl
 refine one_ (i := 2) (N := some 32) #[true, true, true, true, false, true, false, false, false] rfl rfl (one_of HT_.out (by kernel_rfl)) (by decide) (fun K hK => ?_)
 refine goes_ Tryd.func16 (by kernel_rfl) rfl #[.slice A1 l1.length c1] (by rfl) rfl rfl gl_ ?_
 with_reducible refine (laws_toClaimS.calls k _ _ l1 t349 _ ?side1 ?side2 A19.out).mono ?_
 (case side1 => exact Kd.C_below (Kd.C_below HR1.out HB.out) lt_)
 (case side2 => exact HC1.out)
 rintro e w75 ⟨v350, rfl, ho0, hb⟩
 refine ⟨_, rfl, ?_⟩
 have HO351 := mk_ (Kd.S_lower ho0 (below_size (at_ HB.out)))
 replace BK345 := mk_ (blk_at BK345.out hb)
 replace HB := mk_ (below_step (at_ HB.out) hb)
 (try clear hb)
 (try clear hb2)
 (try clear hk)
 (try clear hi)
 (try clear ho0)
 refine hK.out _ _ ⟨(blk_cell BK345.out 0).trans rfl, (blk_cell BK345.out 1).trans rfl⟩ (fun hHeld => ?_)
 clear hK K
 refine norm_ (a' := ?_) ?_ ?_
 rotate_left
 ·show Act.put _ (some 32) _ = _
  simp only [Act.put, z0_, z1_, z2_, i64_w, i32_w]
  rfl
 refine one_ (i := 4) (N := some 34) #[true, true, true, true, true, true, false, false, false] rfl rfl (one_of HT_.out (by kernel_rfl)) (by decide) (fun K hK => ?_)
 refine goes_ Tryd.func17 (by kernel_rfl) rfl #[.slice A2 l2.length c2] (by rfl) rfl rfl gl_ ?_
 with_reducible refine (laws_toMarkS.calls k _ _ l2 t352 _ ?side1 ?side2 A20.out).mono ?_
 (case side1 => exact Kd.C_below (Kd.C_below HR2.out HB.out) lt_)
 (case side2 => exact HC2.out)
 rintro e w76 ⟨v353, rfl, ho0, hb⟩
 refine ⟨_, rfl, ?_⟩
 replace HO351 := mk_ (Kd.S_elder' (Kd.S_below HO351.out lt_) (Kd.R_base ho0) hb)
 have HO354 := mk_ (Kd.R_lower ho0 (below_size (at_ HB.out)))
 replace BK345 := mk_ (blk_at BK345.out hb)
 replace HB := mk_ (below_step (at_ HB.out) hb)
 (try clear hb)
 (try clear hb2)
 (try clear hk)
 (try clear hi)
 (try clear ho0)
 refine hK.out _ _ ⟨(blk_cell BK345.out 0).trans rfl, (blk_cell BK345.out 1).trans rfl⟩ (fun hHeld => ?_)
 clear hK K
 refine norm_ (a' := ?_) ?_ ?_
 rotate_left
 ·show Act.put _ (some 34) _ = _
  simp only [Act.put, z0_, z1_, z2_, i64_w, i32_w]
  rfl
 refine one_ (i := 6) (N := some 36) #[true, true, true, true, true, true, true, false, false] rfl rfl (one_of HT_.out (by kernel_rfl)) (by decide) (fun K hK => ?_)
 refine goes_ Tryd.func18 (by kernel_rfl) rfl #[.agg #[.int .i64 a3_0, .slice A3_1 l3_1.length c3_1]] (by rfl) rfl rfl gl_ ?_
 with_reducible refine (laws_toProof.calls k a3_0 _ _ l3_1 t355 t356 _ ?side1 ?side2 A21.out).mono ?_
 (case side1 => exact Kd.C_below (Kd.C_below HR3_1.out HB.out) lt_)
 (case side2 => exact HC3_1.out)
 rintro e w77 ⟨v357, rfl, ho0, hb⟩
 refine ⟨_, rfl, ?_⟩
 replace HO351 := mk_ (Kd.S_below (Kd.S_below HO351.out lt_) hb)
 replace HO354 := mk_ (Kd.R_below (Kd.R_below HO354.out lt_) hb)
 have HO358 := mk_ (Kd.R_lower ho0 (below_size (at_ HB.out)))
 replace BK345 := mk_ (blk_at BK345.out hb)
 replace HB := mk_ (below_step (at_ HB.out) hb)
 (try clear hb)
 (try clear hb2)
 (try clear hk)
 (try clear hi)
 (try clear ho0)
 obtain ⟨Ao78, co78, eo78⟩ := Kd.S_slice HO351.out
 (first | subst eo78 | (injection eo78 with f1_ f2_ f3_; have f4_ := f1_.symm; have f5_ := f3_.symm; clear f1_ f2_ f3_; subst f4_; subst f5_))
 obtain ⟨Ao79, co79, eo79⟩ := Kd.R_slice HO354.out
 (first | subst eo79 | (injection eo79 with f1_ f2_ f3_; have f4_ := f1_.symm; have f5_ := f3_.symm; clear f1_ f2_ f3_; subst f4_; subst f5_))
 obtain ⟨Ao80, co80, eo80⟩ := Kd.R_slice HO358.out
 (first | subst eo80 | (injection eo80 with f1_ f2_ f3_; have f4_ := f1_.symm; have f5_ := f3_.symm; clear f1_ f2_ f3_; subst f4_; subst f5_))
 refine hK.out _ _ ⟨(blk_cell BK345.out 0).trans rfl, (blk_cell BK345.out 1).trans rfl⟩ (fun hHeld => ?_)
 clear hK K
 refine norm_ (a' := ?_) ?_ ?_
 rotate_left
 ·show Act.put _ (some 36) _ = _
  simp only [Act.put, z0_, z1_, z2_, i64_w, i32_w]
  rfl
 refine one_ (i := 7) (N := some 37) #[true, true, true, true, true, true, true, true, false] rfl rfl (one_of HT_.out (by kernel_rfl)) (by decide) (fun K hK => ?_)
 refine goes_ Tryd.func9 (by kernel_rfl) rfl #[.int .i64 a0, .slice Ao78 t349.length co78, .slice Ao79 t352.length co79, .agg #[.int .i64 t355, .slice Ao80 t356.length co80]] (by rfl) rfl rfl gl_ ?_
 with_reducible refine (spec_ProofText.calls k a0 _ _ t349 _ _ t352 t355 _ _ t356 t359 _ ?side1 ?side2 ?side3 ?side4 ?side5 ?side6 A22.out).mono ?_
 (case side1 => exact Kd.C_below (Kd.S_reads' HO351.out).2.2 lt_)
 (case side2 => exact (Kd.S_reads' HO351.out).2.1)
 (case side3 => exact Kd.C_below (Kd.R_reads' HO354.out).2.2 lt_)
 (case side4 => exact (Kd.R_reads' HO354.out).2.1)
 (case side5 => exact Kd.C_below (Kd.R_reads' HO358.out).2.2 lt_)
 (case side6 => exact (Kd.R_reads' HO358.out).2.1)
 rintro e w81 ⟨rfl, hb⟩
 refine ⟨_, rfl, ?_⟩
 replace HO351 := mk_ (Kd.S_below (Kd.S_below HO351.out lt_) hb)
 replace HO354 := mk_ (Kd.R_below (Kd.R_below HO354.out lt_) hb)
 replace HO358 := mk_ (Kd.R_below (Kd.R_below HO358.out lt_) hb)
 replace BK345 := mk_ (blk_at BK345.out hb)
 replace HB := mk_ (below_step (at_ HB.out) hb)
 (try clear hb)
 (try clear hb2)
 (try clear hk)
 (try clear hi)
 refine hK.out _ _ ⟨(blk_cell BK345.out 0).trans rfl, (blk_cell BK345.out 1).trans rfl⟩ (fun hHeld => ?_)
 clear hK K
 refine norm_ (a' := ?_) ?_ ?_
 rotate_left
 ·show Act.put _ (some 37) _ = _
  simp only [Act.put, z0_, z1_, z2_, i64_w, i32_w]
  rfl
 refine pure_ (i := 8) (N := some 10) (v := ?_) (a' := ?_) #[true, true, true, true, true, true, true, true, true] rfl rfl (any_of HT_.out (by kernel_rfl)) (fun _ _ _ h => h) (Or.inl ⟨by rfl, ?_⟩) ?_ ?_
 rotate_left
 ·intro w'
  go_simp
  with_reducible rfl
 rotate_left
 ·simp only [Act.put, z0_, z1_, z2_, i64_w, i32_w]
  rfl
 refine done_ (done_of HT_.out (by kernel_rfl)) ?_
 try go_wp2_with (first | ((with_reducible refine gate_callee (f := 16) rfl ?_); refine goesL_ (some 39) rfl rfl Tryd.func16 (by kernel_rfl) rfl #[.slice A1 l1.length c1] rfl gl_ ?_; (with_reducible refine (laws_toClaimS.calls k _ _ l1 t360 _ ?side1 ?side2 A23.out).mono ?_); (case side1 => exact Kd.C_below (Kd.C_below HR1.out HB.out) lt_); (case side2 => exact HC1.out); rintro e w82 ⟨v361, rfl, ho0, hb⟩; refine ⟨_, rfl, ?_⟩; replace HO358 := mk_ (Kd.R_below (Kd.R_below HO358.out lt_) hb); have HO362 := mk_ (Kd.S_lower (Kd.S_new' (Kd.S_new' ho0 (Kd.S_lt (Kd.S_below HO351.out lt_))) (Kd.R_lt (Kd.R_below HO354.out lt_))) (below_size (at_ HB.out))); replace HO351 := mk_ (Kd.S_elder' (Kd.S_below HO351.out lt_) (Kd.S_base ho0) hb); replace HO354 := mk_ (Kd.R_below (Kd.R_below HO354.out lt_) hb); replace BK345 := mk_ (blk_at BK345.out hb); replace HB := mk_ (below_step (at_ HB.out) hb); (try clear hb); (try clear hb2); (try clear hk); (try clear hi); (try clear ho0)) | ((with_reducible refine gate_callee (f := 17) rfl ?_); refine goesL_ (some 41) rfl rfl Tryd.func17 (by kernel_rfl) rfl #[.slice A2 l2.length c2] rfl gl_ ?_; (with_reducible refine (laws_toMarkS.calls k _ _ l2 t363 _ ?side1 ?side2 A24.out).mono ?_); (case side1 => exact Kd.C_below (Kd.C_below HR2.out HB.out) lt_); (case side2 => exact HC2.out); rintro e w83 ⟨v364, rfl, ho0, hb⟩; refine ⟨_, rfl, ?_⟩; replace HO351 := mk_ (Kd.S_elder' (Kd.S_below HO351.out lt_) (Kd.R_base ho0) hb); replace HO358 := mk_ (Kd.R_below (Kd.R_below HO358.out lt_) hb); replace HO362 := mk_ (Kd.S_elder' (Kd.S_below HO362.out lt_) (Kd.R_base ho0) hb); have HO365 := mk_ (Kd.R_lower (Kd.R_new' ho0 (Kd.R_lt (Kd.R_below HO354.out lt_))) (below_size (at_ HB.out))); replace HO354 := mk_ (Kd.R_elder' (Kd.R_below HO354.out lt_) (Kd.R_base ho0) hb); replace BK345 := mk_ (blk_at BK345.out hb); replace HB := mk_ (below_step (at_ HB.out) hb); (try clear hb); (try clear hb2); (try clear hk); (try clear hi); (try clear ho0); have hcz84_0 := blk_cell BK345.out 0; have hcz84_1 := blk_cell BK345.out 1; have hfz84_0 := blk_frozen BK345.out 0; have hfz84_1 := blk_frozen BK345.out 1) | ((with_reducible refine gate_callee (f := 18) rfl ?_); refine goesL_ (some 43) rfl rfl Tryd.func18 (by kernel_rfl) rfl #[.agg #[.int .i64 a3_0, .slice A3_1 l3_1.length c3_1]] rfl gl_ ?_; (with_reducible refine (laws_toProof.calls k a3_0 _ _ l3_1 t366 t367 _ ?side1 ?side2 A25.out).mono ?_); (case side1 => exact Kd.C_below (Kd.C_below HR3_1.out HB.out) lt_); (case side2 => exact HC3_1.out); rintro e w85 ⟨v368, rfl, ho0, hb⟩; refine ⟨_, rfl, ?_⟩; replace HO351 := mk_ (Kd.S_below (Kd.S_below HO351.out lt_) hb); replace HO354 := mk_ (Kd.R_below (Kd.R_below HO354.out lt_) hb); replace HO362 := mk_ (Kd.S_below (Kd.S_below HO362.out lt_) hb); replace HO365 := mk_ (Kd.R_below (Kd.R_below HO365.out lt_) hb); have HO369 := mk_ (Kd.R_lower (Kd.R_new' ho0 (Kd.R_lt (Kd.R_below HO358.out lt_))) (below_size (at_ HB.out))); replace HO358 := mk_ (Kd.R_elder' (Kd.R_below HO358.out lt_) (Kd.R_base ho0) hb); replace BK345 := mk_ (blk_at BK345.out hb); replace HB := mk_ (below_step (at_ HB.out) hb); (try clear hb); (try clear hb2); (try clear hk); (try clear hi); (try clear ho0)) | ((with_reducible refine gate_dst (N := 13) rfl ?_); refine box_event ?hg (N := 13) ?hd (cs := #[.int .i64 0, .slice none 0 0]) (t := 27) ?hr ?_; (case hd => rfl); (case hg => rfl); (case hr => first | (go_simp; done) | (go_simp; rfl)); intro gb370 hg w86 hbox hb; replace HO351 := mk_ (Kd.S_below (Kd.S_below HO351.out lt_) hb); replace HO354 := mk_ (Kd.R_below (Kd.R_below HO354.out lt_) hb); replace HO358 := mk_ (Kd.R_below (Kd.R_below HO358.out lt_) hb); replace HO362 := mk_ (Kd.S_below (Kd.S_below HO362.out lt_) hb); replace HO365 := mk_ (Kd.R_below (Kd.R_below HO365.out lt_) hb); replace HO369 := mk_ (Kd.R_below (Kd.R_below HO369.out lt_) hb); have BK370 := mk_ (hbox); have GW370 := mk_ ((by rw [hg]; exact (below_size (at_ HB.out)) : w.heap.size ≤ gb370)); have GE370 := mk_ ((by rw [hg]; exact (below_size (at_ HB.out)) : w.heap.size ≤ gb370)); replace HB := mk_ (below_step (at_ HB.out) hb); have NB345_370 := mk_ ((by rw [hg]; exact Nat.ne_of_lt (blk_lt (g := gb345) (o := .cells #[.int .i64 a3_0, .slice A3_1 l3_1.length c3_1] 40 (0, 0)) (bk_ BK345.out)) : gb345 ≠ gb370)); have NB370_345 := mk_ ((by rw [hg]; exact Nat.ne_of_gt (blk_lt (g := gb345) (o := .cells #[.int .i64 a3_0, .slice A3_1 l3_1.length c3_1] 40 (0, 0)) (bk_ BK345.out)) : gb370 ≠ gb345)); replace BK345 := mk_ (blk_at BK345.out hb); clear hb hbox hg; have hnb87 := NB370_345.out; have hnc87 := NB345_370.out; have hcz88_0 := blk_cell BK370.out 0; have hcz88_1 := blk_cell BK370.out 1; have hfz88_0 := blk_frozen BK370.out 0; have hfz88_1 := blk_frozen BK370.out 1; obtain ⟨Ao89, co89, eo89⟩ := Kd.R_slice HO369.out; subst eo89; obtain ⟨Ao90, co90, eo90⟩ := Kd.S_slice HO362.out; subst eo90; obtain ⟨Ao91, co91, eo91⟩ := Kd.R_slice HO365.out; subst eo91) | ((with_reducible refine gate_callee (f := 8) rfl ?_); refine goesL_ (some 48) rfl rfl Tryd.func8 (by kernel_rfl) rfl #[.int .i64 a0, .slice Ao90 t360.length co90, .slice Ao91 t363.length co91, .agg #[.int .i64 t366, .slice Ao89 t367.length co89]] rfl gl_ ?_; (with_reducible refine (impl_ProofText.calls k a0 _ _ t360 _ _ t363 t366 _ _ t367 t371 _ ?side1 ?side2 ?side3 ?side4 ?side5 ?side6 A26.out).mono ?_); (case side1 => refine (Kd.S_reads' (e := 79) (base := w.heap.size) (ok := fun k_ => (((True ∧ some k_ ≠ (.slice Ao78 t349.length co78 : Value).ownBlock) ∧ some k_ ≠ (.slice Ao79 t352.length co79 : Value).ownBlock) ∧ some k_ ≠ (.slice Ao91 t363.length co91 : Value).ownBlock)) (n := t360.length) (c := co90) ?_).2.2; exact (by (with_reducible repeat (first | apply Kd.S_alloc | apply Kd.S_drewN | apply Kd.S_drew)); exact (Kd.S_mono (Kd.S_far (p := ⟨gb370, 1, none⟩) (Kd.S_far (p := ⟨gb370, 0, none⟩) (Kd.S_types HO362.out BK370.out (by decide)) (fun _ hk => hk.2) (.int .i64 t366)) (fun _ hk => hk.2) (.slice Ao89 t367.length co89)) (fun _ h_ => h_.1)))); (case side2 => exact (Kd.S_reads' HO362.out).2.1); (case side3 => refine (Kd.R_reads' (e := 82) (base := w.heap.size) (ok := fun k_ => (True ∧ some k_ ≠ (.slice Ao79 t352.length co79 : Value).ownBlock)) (n := t363.length) (c := co91) ?_).2.2; exact (by (with_reducible repeat (first | apply Kd.R_alloc | apply Kd.R_drewN | apply Kd.R_drew)); exact (Kd.R_mono (Kd.R_far (p := ⟨gb370, 1, none⟩) (Kd.R_far (p := ⟨gb370, 0, none⟩) (Kd.R_types HO365.out BK370.out (by decide)) (fun _ hk => hk.2) (.int .i64 t366)) (fun _ hk => hk.2) (.slice Ao89 t367.length co89)) (fun _ h_ => h_.1)))); (case side4 => exact (Kd.R_reads' HO365.out).2.1); (case side5 => refine (Kd.R_reads' (e := 68) (base := w.heap.size) (ok := fun k_ => (True ∧ some k_ ≠ (.slice Ao80 t356.length co80 : Value).ownBlock)) (n := t367.length) (c := co89) ?_).2.2; exact (by (with_reducible repeat (first | apply Kd.R_alloc | apply Kd.R_drewN | apply Kd.R_drew)); exact (Kd.R_mono (Kd.R_far (p := ⟨gb370, 1, none⟩) (Kd.R_far (p := ⟨gb370, 0, none⟩) (Kd.R_types HO369.out BK370.out (by decide)) (fun _ hk => hk.2) (.int .i64 t366)) (fun _ hk => hk.2) (.slice Ao89 t367.length co89)) (fun _ h_ => h_.1)))); (case side6 => exact (Kd.R_reads' HO369.out).2.1); rintro e w92 ⟨rfl, hb⟩; refine ⟨_, rfl, ?_⟩; replace HO351 := mk_ (Kd.S_below (by (with_reducible repeat (first | apply Kd.S_alloc | apply Kd.S_drewN | apply Kd.S_drew)); exact (Kd.S_mono (Kd.S_far (p := ⟨gb370, 1, none⟩) (Kd.S_far (p := ⟨gb370, 0, none⟩) (Kd.S_types HO351.out BK370.out (by decide)) (fun _ hk => hk.2) (.int .i64 t366)) (fun _ hk => hk.2) (.slice Ao89 t367.length co89)) (fun _ h_ => h_.1))) hb); replace HO354 := mk_ (Kd.R_below (by (with_reducible repeat (first | apply Kd.R_alloc | apply Kd.R_drewN | apply Kd.R_drew)); exact (Kd.R_mono (Kd.R_far (p := ⟨gb370, 1, none⟩) (Kd.R_far (p := ⟨gb370, 0, none⟩) (Kd.R_types HO354.out BK370.out (by decide)) (fun _ hk => hk.2) (.int .i64 t366)) (fun _ hk => hk.2) (.slice Ao89 t367.length co89)) (fun _ h_ => h_.1))) hb); replace HO358 := mk_ (Kd.R_below (by (with_reducible repeat (first | apply Kd.R_alloc | apply Kd.R_drewN | apply Kd.R_drew)); exact (Kd.R_mono (Kd.R_far (p := ⟨gb370, 1, none⟩) (Kd.R_far (p := ⟨gb370, 0, none⟩) (Kd.R_types HO358.out BK370.out (by decide)) (fun _ hk => hk.2) (.int .i64 t366)) (fun _ hk => hk.2) (.slice Ao89 t367.length co89)) (fun _ h_ => h_.1))) hb); replace HO362 := mk_ (Kd.S_below (by (with_reducible repeat (first | apply Kd.S_alloc | apply Kd.S_drewN | apply Kd.S_drew)); exact (Kd.S_mono (Kd.S_far (p := ⟨gb370, 1, none⟩) (Kd.S_far (p := ⟨gb370, 0, none⟩) (Kd.S_types HO362.out BK370.out (by decide)) (fun _ hk => hk.2) (.int .i64 t366)) (fun _ hk => hk.2) (.slice Ao89 t367.length co89)) (fun _ h_ => h_.1))) hb); replace HO365 := mk_ (Kd.R_below (by (with_reducible repeat (first | apply Kd.R_alloc | apply Kd.R_drewN | apply Kd.R_drew)); exact (Kd.R_mono (Kd.R_far (p := ⟨gb370, 1, none⟩) (Kd.R_far (p := ⟨gb370, 0, none⟩) (Kd.R_types HO365.out BK370.out (by decide)) (fun _ hk => hk.2) (.int .i64 t366)) (fun _ hk => hk.2) (.slice Ao89 t367.length co89)) (fun _ h_ => h_.1))) hb); replace HO369 := mk_ (Kd.R_below (by (with_reducible repeat (first | apply Kd.R_alloc | apply Kd.R_drewN | apply Kd.R_drew)); exact (Kd.R_mono (Kd.R_far (p := ⟨gb370, 1, none⟩) (Kd.R_far (p := ⟨gb370, 0, none⟩) (Kd.R_types HO369.out BK370.out (by decide)) (fun _ hk => hk.2) (.int .i64 t366)) (fun _ hk => hk.2) (.slice Ao89 t367.length co89)) (fun _ h_ => h_.1))) hb); replace BK345 := mk_ (blk_below (g := gb345) (o := .cells #[.int .i64 a3_0, .slice A3_1 l3_1.length c3_1] 40 (0, 0)) (by (with_reducible repeat (first | refine blk_drewN ?_ _ | refine blk_drew ?_ | refine blk_alloc ?_ _)); refine blk_far ?_ NB345_370.out _; (with_reducible repeat (first | refine blk_drewN ?_ _ | refine blk_drew ?_ | refine blk_alloc ?_ _)); refine blk_far ?_ NB345_370.out _; (with_reducible repeat (first | refine blk_drewN ?_ _ | refine blk_drew ?_ | refine blk_alloc ?_ _)); exact BK345.out) hb); replace BK370 := mk_ (blk_below (g := gb370) (o := .cells #[.int .i64 t366, .slice Ao89 t367.length co89] 27 (0, 0)) (by (with_reducible repeat (first | refine blk_drewN ?_ _ | refine blk_drew ?_ | refine blk_alloc ?_ _)); refine blk_put (cs := #[.int .i64 t366, .slice none 0 0]) ?_ 1 _ rfl; (with_reducible repeat (first | refine blk_drewN ?_ _ | refine blk_drew ?_ | refine blk_alloc ?_ _)); refine blk_put (cs := #[.int .i64 0, .slice none 0 0]) ?_ 0 _ rfl; (with_reducible repeat (first | refine blk_drewN ?_ _ | refine blk_drew ?_ | refine blk_alloc ?_ _)); exact BK370.out) hb); replace HB := mk_ (below_step (at_ HB.out) hb); (try clear hb); (try clear hb2); (try clear hk); (try clear hi)) | ((with_reducible refine gate_callee (f := 16) rfl ?_); refine goesL_ (some 54) rfl rfl Tryd.func16 (by kernel_rfl) rfl #[.slice A1 l1.length c1] rfl gl_ ?_; (with_reducible refine (laws_toClaimS.calls k _ _ l1 t372 _ ?side1 ?side2 A28.out).mono ?_); (case side1 => exact Kd.C_below (Kd.C_below HR1.out HB.out) lt_); (case side2 => exact HC1.out); rintro e w93 ⟨v373, rfl, ho0, hb⟩; refine ⟨_, rfl, ?_⟩; replace HO358 := mk_ (Kd.R_below (Kd.R_below HO358.out lt_) hb); replace HO369 := mk_ (Kd.R_below (Kd.R_below HO369.out lt_) hb); have HO374 := mk_ (Kd.S_lower (Kd.S_new' (Kd.S_new' (Kd.S_new' (Kd.S_new' ho0 (Kd.S_lt (Kd.S_below HO351.out lt_))) (Kd.R_lt (Kd.R_below HO354.out lt_))) (Kd.S_lt (Kd.S_below HO362.out lt_))) (Kd.R_lt (Kd.R_below HO365.out lt_))) (below_size (at_ HB.out))); replace HO354 := mk_ (Kd.R_below (Kd.R_below HO354.out lt_) hb); replace HO362 := mk_ (Kd.S_elder' (Kd.S_below HO362.out lt_) (Kd.S_base ho0) hb); replace HO365 := mk_ (Kd.R_below (Kd.R_below HO365.out lt_) hb); replace BK345 := mk_ (blk_at BK345.out hb); replace BK370 := mk_ (blk_at BK370.out hb); replace HB := mk_ (below_step (at_ HB.out) hb); (try clear HO351); (try clear hb); (try clear hb2); (try clear hk); (try clear hi); (try clear ho0); obtain ⟨Ao94, co94, eo94⟩ := Kd.S_slice HO374.out; subst eo94) | ((with_reducible refine gate_callee (f := 19) rfl ?_); refine goesL_ (some 55) rfl rfl Tryd.func19 (by kernel_rfl) rfl #[.slice Ao90 t360.length co90, .slice Ao94 t372.length co94] rfl gl_ ?_; (with_reducible refine (laws_eqClaimS.calls k _ _ t360 _ _ t372 true _ ?side1 ?side2 ?side3 ?side4 A29.out).mono ?_); (case side1 => exact Kd.C_below (Kd.S_reads' HO362.out).2.2 lt_); (case side2 => exact (Kd.S_reads' HO362.out).2.1); (case side3 => exact Kd.C_below (Kd.S_reads' HO374.out).2.2 lt_); (case side4 => exact (Kd.S_reads' HO374.out).2.1); rintro e w95 ⟨rfl, hb⟩; refine ⟨_, rfl, ?_⟩; replace HO354 := mk_ (Kd.R_below (Kd.R_below HO354.out lt_) hb); replace HO358 := mk_ (Kd.R_below (Kd.R_below HO358.out lt_) hb); replace HO365 := mk_ (Kd.R_below (Kd.R_below HO365.out lt_) hb); replace HO369 := mk_ (Kd.R_below (Kd.R_below HO369.out lt_) hb); replace BK345 := mk_ (blk_at BK345.out hb); replace BK370 := mk_ (blk_at BK370.out hb); replace HB := mk_ (below_step (at_ HB.out) hb); (try clear HO351 HO362 HO374); (try clear hb); (try clear hb2); (try clear hk); (try clear hi)) | ((with_reducible refine gate_callee (f := 17) rfl ?_); refine goesL_ (some 59) rfl rfl Tryd.func17 (by kernel_rfl) rfl #[.slice A2 l2.length c2] rfl gl_ ?_; (with_reducible refine (laws_toMarkS.calls k _ _ l2 t376 _ ?side1 ?side2 A31.out).mono ?_); (case side1 => exact Kd.C_below (Kd.C_below HR2.out HB.out) lt_); (case side2 => exact HC2.out); rintro e w96 ⟨v377, rfl, ho0, hb⟩; refine ⟨_, rfl, ?_⟩; replace HO358 := mk_ (Kd.R_below (Kd.R_below HO358.out lt_) hb); replace HO369 := mk_ (Kd.R_below (Kd.R_below HO369.out lt_) hb); have HO378 := mk_ (Kd.R_lower (Kd.R_new' (Kd.R_new' ho0 (Kd.R_lt (Kd.R_below HO354.out lt_))) (Kd.R_lt (Kd.R_below HO365.out lt_))) (below_size (at_ HB.out))); replace HO365 := mk_ (Kd.R_elder' (Kd.R_below HO365.out lt_) (Kd.R_base ho0) hb); replace BK345 := mk_ (blk_at BK345.out hb); replace BK370 := mk_ (blk_at BK370.out hb); replace HB := mk_ (below_step (at_ HB.out) hb); (try clear HO351 HO354 HO362 HO374); (try clear hb); (try clear hb2); (try clear hk); (try clear hi); (try clear ho0); obtain ⟨Ao97, co97, eo97⟩ := Kd.R_slice HO378.out; subst eo97) | ((with_reducible refine gate_callee (f := 20) rfl ?_); refine goesL_ (some 60) rfl rfl Tryd.func20 (by kernel_rfl) rfl #[.slice Ao91 t363.length co91, .slice Ao97 t376.length co97] rfl gl_ ?_; (with_reducible refine (laws_eqMarkS.calls k _ _ t363 _ _ t376 true _ ?side1 ?side2 ?side3 ?side4 A32.out).mono ?_); (case side1 => exact Kd.C_below (Kd.R_reads' HO365.out).2.2 lt_); (case side2 => exact (Kd.R_reads' HO365.out).2.1); (case side3 => exact Kd.C_below (Kd.R_reads' HO378.out).2.2 lt_); (case side4 => exact (Kd.R_reads' HO378.out).2.1); rintro e w98 ⟨rfl, hb⟩; refine ⟨_, rfl, ?_⟩; replace HO358 := mk_ (Kd.R_below (Kd.R_below HO358.out lt_) hb); replace HO369 := mk_ (Kd.R_below (Kd.R_below HO369.out lt_) hb); replace BK345 := mk_ (blk_at BK345.out hb); replace BK370 := mk_ (blk_at BK370.out hb); replace HB := mk_ (below_step (at_ HB.out) hb); (try clear HO351 HO354 HO362 HO365 HO374 HO378); (try clear hb); (try clear hb2); (try clear hk); (try clear hi)))
 replace HO358 := mk_ (Kd.R_drew HO358.out)
 replace HO369 := mk_ (Kd.R_drew HO369.out)
 replace BK345 := mk_ (blk_drew BK345.out)
 replace BK370 := mk_ (blk_drew BK370.out)
 replace HB := mk_ (below_drew1 HB.out)
 (try clear HO351 HO354 HO362 HO365 HO374 HO378)
 refine start_ (n := 5) (S := fun w' => w'.cell? ⟨gb370, 0, none⟩ = some (.int .i64 t366) ∧ w'.cell? ⟨gb370, 1, none⟩ = some (.slice Ao89 t367.length co89) ∧ w'.cell? ⟨gb345, 0, none⟩ = some (.int .i64 a3_0) ∧ w'.cell? ⟨gb345, 1, none⟩ = some (.slice A3_1 l3_1.length c3_1)) (ds := []) #[false, false, false, false, false] (by kernel_rfl) rfl rfl ⟨(blk_cell BK370.out 0).trans rfl, (blk_cell BK370.out 1).trans rfl, (blk_cell BK345.out 0).trans rfl, (blk_cell BK345.out 1).trans rfl⟩ (fun hHeld => ?_)
 generalize w98.drew = w99 at HO358 HO369 BK345 BK370 HB hHeld ⊢
 refine take_ (i := 0) (N := some 62) (v := ?_) (a' := ?_) #[true, false, false, false, false] rfl rfl (by kernel_rfl) (fun _ _ _ h => h) (Or.inl ⟨by rfl, ?_⟩) hHeld ?_ ?_
 rotate_left
 ·rintro w' ⟨s0, s1, s2, s3⟩
  go_simp
  with_reducible rfl
 rotate_left
 ·simp only [Act.put, z0_, z1_, z2_, i64_w, i32_w]
  rfl
 refine take_ (i := 1) (N := some 63) (v := ?_) (a' := ?_) #[true, true, false, false, false] rfl rfl (by kernel_rfl) (fun _ _ _ h => h) (Or.inl ⟨by rfl, ?_⟩) hHeld ?_ ?_
 rotate_left
 ·rintro w' ⟨s0, s1, s2, s3⟩
  go_simp
  with_reducible rfl
 rotate_left
 ·simp only [Act.put, z0_, z1_, z2_, i64_w, i32_w]
  rfl
 refine one_ (i := 2) (N := some 64) #[true, true, true, false, false] rfl rfl (by kernel_rfl) (by decide) (fun K hK => ?_)
 refine goes_ Tryd.func18 (by kernel_rfl) rfl #[.agg #[.int .i64 a3_0, .slice A3_1 l3_1.length c3_1]] (by rfl) rfl rfl gl_ ?_
 with_reducible refine (laws_toProof.calls k a3_0 _ _ l3_1 t380 t381 _ ?side1 ?side2 A34.out).mono ?_
 (case side1 => exact Kd.C_below (Kd.C_below HR3_1.out HB.out) lt_)
 (case side2 => exact HC3_1.out)
 rintro e w100 ⟨v382, rfl, ho0, hb⟩
 refine ⟨_, rfl, ?_⟩
 have HO383 := mk_ (Kd.R_lower (Kd.R_new' (Kd.R_new' ho0 (Kd.R_lt (Kd.R_below HO358.out lt_))) (Kd.R_lt (Kd.R_below HO369.out lt_))) (below_size (at_ HB.out)))
 replace HO369 := mk_ (Kd.R_elder' (Kd.R_below HO369.out lt_) (Kd.R_base ho0) hb)
 replace BK345 := mk_ (blk_at BK345.out hb)
 replace BK370 := mk_ (blk_at BK370.out hb)
 replace HB := mk_ (below_step (at_ HB.out) hb)
 (try clear HO351 HO354 HO358 HO362 HO365 HO374 HO378)
 (try clear hb)
 (try clear hb2)
 (try clear hk)
 (try clear hi)
 (try clear ho0)
 obtain ⟨Ao101, co101, eo101⟩ := Kd.R_slice HO383.out
 (first | subst eo101 | (injection eo101 with f1_ f2_ f3_; have f4_ := f1_.symm; have f5_ := f3_.symm; clear f1_ f2_ f3_; subst f4_; subst f5_))
 refine hK.out _ _ ⟨(blk_cell BK370.out 0).trans rfl, (blk_cell BK370.out 1).trans rfl, (blk_cell BK345.out 0).trans rfl, (blk_cell BK345.out 1).trans rfl⟩ (fun hHeld => ?_)
 clear hK K
 refine norm_ (a' := ?_) ?_ ?_
 rotate_left
 ·show Act.put _ (some 64) _ = _
  simp only [Act.put, z0_, z1_, z2_, i64_w, i32_w]
  rfl
 refine one_ (i := 3) (N := some 65) #[true, true, true, true, false] rfl rfl (by kernel_rfl) (by decide) (fun K hK => ?_)
 refine goes_ Tryd.func21 (by kernel_rfl) rfl #[.agg #[.int .i64 t366, .slice Ao89 t367.length co89], .agg #[.int .i64 t380, .slice Ao101 t381.length co101]] (by rfl) rfl rfl gl_ ?_
 with_reducible refine (laws_eqProof.calls k t366 _ _ t367 t380 _ _ t381 false _ ?side1 ?side2 ?side3 ?side4 A35.out).mono ?_
 (case side1 => exact Kd.C_below (Kd.R_reads' HO369.out).2.2 lt_)
 (case side2 => exact (Kd.R_reads' HO369.out).2.1)
 (case side3 => exact Kd.C_below (Kd.R_reads' HO383.out).2.2 lt_)
 (case side4 => exact (Kd.R_reads' HO383.out).2.1)
 rintro e w102 ⟨rfl, hb⟩
 refine ⟨_, rfl, ?_⟩
 replace BK345 := mk_ (blk_at BK345.out hb)
 replace BK370 := mk_ (blk_at BK370.out hb)
 replace HB := mk_ (below_step (at_ HB.out) hb)
 (try clear HO351 HO354 HO358 HO362 HO365 HO369 HO374 HO378 HO383)
 (try clear hb)
 (try clear hb2)
 (try clear hk)
 (try clear hi)
 refine hK.out _ _ ⟨(blk_cell BK370.out 0).trans rfl, (blk_cell BK370.out 1).trans rfl, (blk_cell BK345.out 0).trans rfl, (blk_cell BK345.out 1).trans rfl⟩ (fun hHeld => ?_)
 clear hK K
 refine norm_ (a' := ?_) ?_ ?_
 rotate_left
 ·show Act.put _ (some 65) _ = _
  simp only [Act.put, z0_, z1_, z2_, i64_w, i32_w]
  rfl
 refine pure_ (i := 4) (N := some 66) (v := ?_) (a' := ?_) #[true, true, true, true, true] rfl rfl (by kernel_rfl) (fun _ _ _ h => h) (Or.inl ⟨by rfl, ?_⟩) ?_ ?_
 rotate_left
 ·intro w'
  go_simp
  with_reducible rfl
 rotate_left
 ·simp only [Act.put, z0_, z1_, z2_, i64_w, i32_w]
  rfl
 refine done_ (by kernel_rfl) ?_
 try go_wp2
 go_ret
 exact ⟨er_, at_ HB.out⟩

/-- THE ONE PURE STATEMENT of laws_FnExactProofText. -/
noncomputable def laws_FnExactProofText.Pure : Prop := ∀ (a0 : Int) (l1 : List (S76)) (l2 : List (S84)) (a3_0 : Int) (l3_1 : List (S114)), ((Lit.int .i64 a0).wf = true) → (l1.length ≤ maxLen ∧ ∀ y0 ∈ l1, ((Lit.int .i64 y0.f0).wf = true) ∧ (y0.f1.length ≤ maxLen ∧ ∀ y1 ∈ y0.f1, ((Lit.int .i64 y1.f0).wf = true) ∧ ((Lit.int .i64 y1.f1).wf = true))) → (l2.length ≤ maxLen ∧ ∀ y0 ∈ l2, ((Lit.int .i64 y0.f0).wf = true) ∧ ((Lit.int .i64 y0.f1).wf = true)) → ((Lit.int .i64 a3_0).wf = true) → (l3_1.length ≤ maxLen ∧ ∀ y0 ∈ l3_1, ((Lit.int .i64 y0.f0).wf = true) ∧ ((Lit.int .i64 y0.f1).wf = true) ∧ ((Lit.int .i64 y0.f2).wf = true)) → ∃ k, laws_FnExactProofText.f k a0 l1 l2 a3_0 l3_1 = some true
theorem laws_FnExactProofText.walk (P : laws_FnExactProofText.Pure) (a0 : Int) (A1 : Option Addr) (c1 : Nat) (l1 : List (S76)) (A2 : Option Addr) (c2 : Nat) (l2 : List (S84)) (a3_0 : Int) (A3_1 : Option Addr) (c3_1 : Nat) (l3_1 : List (S114)) (w : World) (hr1 : Kd.C k76 w A1 l1.length l1) (hc1 : l1.length ≤ c1) (hr2 : Kd.C k84 w A2 l2.length l2) (hc2 : l2.length ≤ c2) (hr3_1 : Kd.C k114 w A3_1 l3_1.length l3_1) (hc3_1 : l3_1.length ≤ c3_1) (wf0_ : (Lit.int .i64 a0).wf = true) (wf1_ : l1.length ≤ maxLen ∧ ∀ y0 ∈ l1, ((Lit.int .i64 y0.f0).wf = true) ∧ (y0.f1.length ≤ maxLen ∧ ∀ y1 ∈ y0.f1, ((Lit.int .i64 y1.f0).wf = true) ∧ ((Lit.int .i64 y1.f1).wf = true))) (wf2_ : l2.length ≤ maxLen ∧ ∀ y0 ∈ l2, ((Lit.int .i64 y0.f0).wf = true) ∧ ((Lit.int .i64 y0.f1).wf = true)) (wf3_ : (Lit.int .i64 a3_0).wf = true) (wf4_ : l3_1.length ≤ maxLen ∧ ∀ y0 ∈ l3_1, ((Lit.int .i64 y0.f0).wf = true) ∧ ((Lit.int .i64 y0.f1).wf = true) ∧ ((Lit.int .i64 y0.f2).wf = true)) :
  Calls Tryd.prog 4 #[.int .i64 a0, .slice A1 l1.length c1, .slice A2 l2.length c2, .agg #[.int .i64 a3_0, .slice A3_1 l3_1.length c3_1]] w fun e w' => e = .returned (.bool true) ∧ Below w.heap.size w w' := by
 obtain ⟨k, h⟩ := P a0 l1 l2 a3_0 l3_1 wf0_ wf1_ wf2_ wf3_ wf4_
 refine (laws_FnExactProofText.calls k a0 A1 c1 l1 A2 c2 l2 a3_0 A3_1 c3_1 l3_1 true w hr1 hc1 hr2 hc2 hr3_1 hc3_1 h).mono ?_
 rintro e w' ⟨rfl, hd⟩
 exact ⟨rfl, hd⟩

end Go.Proofs.YtcaogllnbpmcgaaDoor.P

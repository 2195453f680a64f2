/- Written by our program myprint.py out of Lean's print of the translation: Go's function comes to just the answer of the Lean function told here. -/
import Derived.Test.YtcaogllnbpmcgaaPx0
import Derived.Test.YtcaogllnbpmcgaaPx2
import Derived.Test.YtcaogllnbpmcgaaPx3
import Derived.Test.YtcaogllnbpmcgaaPx4
import Derived.Test.YtcaogllnbpmcgaaPx9
import Derived.Test.YtcaogllnbpmcgaaPx10
import Derived.Test.YtcaogllnbpmcgaaPx18
import Derived.Test.YtcaogllnbpmcgaaPx19
namespace Go.Proofs.Ytcaogllnbpmcgaa.P
open Go.RowKit Go.Proofs.YtcaogllnbpmcgaaW.PrintWords Go.Proofs.YtcaogllnbpmcgaaW.PrintLast Go.Proofs.YtcaogllnbpmcgaaW.PrintMore
attribute [local go_sem] max2_int min2_int max_two min_two max_three min_three max_four min_four   -- for this text's walks alone
set_option linter.unusedVariables false
set_option linter.unusedSimpArgs false

/-! ### laws_FnExactProofOk: function 8 -/
noncomputable def laws_FnExactProofOk.f (k : Nat) (a0 : Int) (l1 : List (S75)) (l2 : List (S100)) (a3_0 : Int) (l3_1 : List (S124)) : Option (Bool) := (laws_szClaimS.f k l1 1048576).bind fun t299 => (if t299 < 0 then (some true) else ((laws_szMarkS.f l2 t299).bind fun t300 => (if t300 < 0 then (some true) else ((laws_szProof.f a3_0 l3_1 t300).bind fun t301 => (if t301 < 0 then (some true) else ((laws_toClaimS.f k l1).bind fun t302 => ((laws_toMarkS.f k l2).bind fun t305 => ((laws_toProof.f k a3_0 l3_1).bind fun bt308 => ((spec_ProofOk.f k a0 t302 t305 bt308.1 bt308.2).bind fun t312 => ((laws_toClaimS.f k l1).bind fun t313 => ((laws_toMarkS.f k l2).bind fun t316 => ((laws_toProof.f k a3_0 l3_1).bind fun bt319 => ((impl_ProofOk.f a0 t313 t316 bt319.1 bt319.2).bind fun t324 => (if (t324 != t312) = true then (some false) else ((laws_toClaimS.f k l1).bind fun t325 => ((laws_eqClaimS.f k t313 t325).bind fun t328 => (if t328 = true then ((laws_toMarkS.f k l2).bind fun t329 => ((laws_eqMarkS.f k t316 t329).bind fun t332 => (if t332 = true then ((laws_toProof.f k a3_0 l3_1).bind fun bt333 => ((laws_eqProof.f k bt319.1 bt319.2 bt333.1 bt333.2).bind fun t337 => (if t337 = true then (some true) else (some false)))) else (some false)))) else (some false))))))))))))))))))
theorem laws_FnExactProofOk.mono : ∀ a0 a1 a2 a3 a4 k, LeO (laws_FnExactProofOk.f k a0 a1 a2 a3 a4) (laws_FnExactProofOk.f (k + 1) a0 a1 a2 a3 a4) := by
 intro a0 a1 a2 a3 a4 k
 unfold laws_FnExactProofOk.f
 repeat' first
   | (with_reducible exact laws_eqClaimS.mono _ _ _)
   | (with_reducible exact laws_eqMarkS.mono _ _ _)
   | (with_reducible exact laws_eqProof.mono _ _ _ _ _)
   | (with_reducible exact laws_szClaimS.mono _ _ _)
   | (with_reducible exact laws_toClaimS.mono _ _)
   | (with_reducible exact laws_toMarkS.mono _ _)
   | (with_reducible exact laws_toProof.mono _ _ _)
   | (with_reducible exact spec_ProofOk.mono _ _ _ _ _ _)
   | (with_reducible exact LeO.refl _)
   | (with_reducible exact LeO.none _)
   | (with_reducible refine LeO.ite ?_ ?_)
   | (with_reducible refine LeO.bind ?_ (fun _ => ?_))
   | exact laws_eqClaimS.mono _ _ _
   | exact laws_eqMarkS.mono _ _ _
   | exact laws_eqProof.mono _ _ _ _ _
   | exact laws_szClaimS.mono _ _ _
   | exact laws_toClaimS.mono _ _
   | exact laws_toMarkS.mono _ _
   | exact laws_toProof.mono _ _ _
   | exact spec_ProofOk.mono _ _ _ _ _ _
   | exact LeO.none _
   | refine LeO.ite ?_ ?_
   | refine LeO.bind ?_ (fun _ => ?_)
def laws_FnExactProofOk.T11 : Bool × List (List Nat × List Nat) := (true, [([], []), ([], []), ([1], [1]), ([], []), ([3, 2], [3]), ([], []), ([5, 4], [5]), ([0, 2, 4, 6, 6], [0, 2, 4, 6]), ([7, 7, 0, 1, 2, 3, 4, 5, 6, 7], [7])])
def laws_FnExactProofOk.B11 : List Nat := [0, 0, 2, 0, 14, 0, 62, 127, 255]
theorem laws_FnExactProofOk.tab11 : rtab .any (opsOf Try.f8 11) = laws_FnExactProofOk.T11 := by kernel_rfl
theorem laws_FnExactProofOk.bits11 : waitsOk laws_FnExactProofOk.T11.2 laws_FnExactProofOk.B11 = true := by kernel_rfl
set_option maxHeartbeats 8000000 in
set_option maxRecDepth 100000 in
theorem laws_FnExactProofOk.calls (k : Nat) (a0 : Int) (A1 : Option Addr) (c1 : Nat) (l1 : List (S75)) (A2 : Option Addr) (c2 : Nat) (l2 : List (S100)) (a3_0 : Int) (A3_1 : Option Addr) (c3_1 : Nat) (l3_1 : List (S124)) (r : Bool) (w : World) (hr1 : Kd.C k75 w A1 l1.length l1) (hc1 : l1.length ≤ c1) (hr2 : Kd.C k100 w A2 l2.length l2) (hc2 : l2.length ≤ c2) (hr3_1 : Kd.C k124 w A3_1 l3_1.length l3_1) (hc3_1 : l3_1.length ≤ c3_1) (h : laws_FnExactProofOk.f k a0 l1 l2 a3_0 l3_1 = some r) :
  Calls Try.prog 8 #[.int .i64 a0, .slice A1 l1.length c1, .slice A2 l2.length c2, .agg #[.int .i64 a3_0, .slice A3_1 l3_1.length c3_1]] w fun e w' => e = .returned (.bool r) ∧ Below w.heap.size w w' := by
 have hu57 := Try.underlying57
 have hu51 := Try.underlying51
 have HR1 := Aside0.mk hr1
 have HC1 := Aside0.mk hc1
 clear hr1 hc1
 have HR2 := Aside0.mk hr2
 have HC2 := Aside0.mk hc2
 clear hr2 hc2
 have HR3_1 := Aside0.mk hr3_1
 have HC3_1 := Aside0.mk hc3_1
 clear hr3_1 hc3_1
 have HB := Aside0.mk (Below.refl w.heap.size w)
 have H : ((laws_szClaimS.f k l1 1048576).bind fun t299 => (if t299 < 0 then (some true) else ((laws_szMarkS.f l2 t299).bind fun t300 => (if t300 < 0 then (some true) else ((laws_szProof.f a3_0 l3_1 t300).bind fun t301 => (if t301 < 0 then (some true) else ((laws_toClaimS.f k l1).bind fun t302 => ((laws_toMarkS.f k l2).bind fun t305 => ((laws_toProof.f k a3_0 l3_1).bind fun bt308 => ((spec_ProofOk.f k a0 t302 t305 bt308.1 bt308.2).bind fun t312 => ((laws_toClaimS.f k l1).bind fun t313 => ((laws_toMarkS.f k l2).bind fun t316 => ((laws_toProof.f k a3_0 l3_1).bind fun bt319 => ((impl_ProofOk.f a0 t313 t316 bt319.1 bt319.2).bind fun t324 => (if (t324 != t312) = true then (some false) else ((laws_toClaimS.f k l1).bind fun t325 => ((laws_eqClaimS.f k t313 t325).bind fun t328 => (if t328 = true then ((laws_toMarkS.f k l2).bind fun t329 => ((laws_eqMarkS.f k t316 t329).bind fun t332 => (if t332 = true then ((laws_toProof.f k a3_0 l3_1).bind fun bt333 => ((laws_eqProof.f k bt319.1 bt319.2 bt333.1 bt333.2).bind fun t337 => (if t337 = true then (some true) else (some false)))) else (some false)))) else (some false))))))))))))))))))) = some r := h
 clear h
 replace H := Option.bind_eq_some_iff.mp H
 obtain ⟨t299, A50, H⟩ := H
 try dsimp only at H
 have A5 := Aside0.mk A50
 clear A50
 by_cases c6 : t299 < 0
 ·rw [if_pos c6] at H
  have c6b0 : decide (t299 < 0) = true := decide_eq_true c6
  clear c6
  obtain rfl := Option.some.inj H
  go_enter Try.func8, Try.ntmps8
  go_wp2_with (first | ((with_reducible refine gate_dst (N := 7) rfl ?_); refine box_event ?hg (N := 7) ?hd (cs := #[.int .i64 a3_0, .slice A3_1 l3_1.length c3_1]) (t := 57) ?hr ?_; (case hd => rfl); (case hg => rfl); (case hr => first | (go_simp; done) | (go_simp; rfl)); intro gb298 hg w7 hbox hb; have n0_ := Aside0.mk (below_step (below_at HB.out) hb); have n1_ := Aside0.mk (hbox); have n2_ := Aside0.mk ((by rw [hg]; exact (below_size (below_at HB.out)) : w.heap.size ≤ gb298)); have n3_ := Aside0.mk ((by rw [hg]; exact (below_size (below_at HB.out)) : w.heap.size ≤ gb298)); clear HB; have HB := n0_; have BK298 := n1_; have GW298 := n2_; have GE298 := n3_; clear n0_ n1_ n2_ n3_; clear hb hbox hg) | ((with_reducible refine gate_callee (f := 12) rfl ?_); refine goesL_ (some 17) rfl rfl Try.func12 (by kernel_rfl) rfl #[.slice A1 l1.length c1, .int .i64 1048576] rfl (by (try simp only [List.map_toArray, List.map_cons, List.map_nil]); first | done | rfl | (simp only [List.length_drop, List.length_take]; rfl)) ?_; (with_reducible refine (laws_szClaimS.calls k _ _ l1 1048576 t299 _ ?side1 ?side2 A5.out).mono ?_); (case side1 => exact Kd.C_below (Kd.C_below HR1.out HB.out) lt_); (case side2 => exact HC1.out); rintro e w8 ⟨rfl, hb⟩; refine ⟨_, rfl, ?_⟩; have n0_ := Aside0.mk (blk_at BK298.out hb); have n1_ := Aside0.mk (below_step (at_ HB.out) hb); clear BK298; clear HB; have BK298 := n0_; have HB := n1_; clear n0_ n1_; (try clear hb); (try clear hb2); (try clear hk); (try clear hi)))
  go_ret
  exact ⟨by first | rfl | (simp [errW_none, errW_some] <;> rfl) | (simp [*, errW_none, errW_some] <;> rfl), at_ HB.out⟩
 ·rw [if_neg c6] at H
  have c6b0 : decide (t299 < 0) = false := decide_eq_false c6
  clear c6
  replace H := Option.bind_eq_some_iff.mp H
  obtain ⟨t300, A90, H⟩ := H
  try dsimp only at H
  have A9 := Aside0.mk A90
  clear A90
  by_cases c10 : t300 < 0
  ·rw [if_pos c10] at H
   have c10b0 : decide (t300 < 0) = true := decide_eq_true c10
   clear c10
   obtain rfl := Option.some.inj H
   go_enter Try.func8, Try.ntmps8
   go_wp2_with (first | ((with_reducible refine gate_dst (N := 7) rfl ?_); refine box_event ?hg (N := 7) ?hd (cs := #[.int .i64 a3_0, .slice A3_1 l3_1.length c3_1]) (t := 57) ?hr ?_; (case hd => rfl); (case hg => rfl); (case hr => first | (go_simp; done) | (go_simp; rfl)); intro gb298 hg w11 hbox hb; have n0_ := Aside0.mk (below_step (below_at HB.out) hb); have n1_ := Aside0.mk (hbox); have n2_ := Aside0.mk ((by rw [hg]; exact (below_size (below_at HB.out)) : w.heap.size ≤ gb298)); have n3_ := Aside0.mk ((by rw [hg]; exact (below_size (below_at HB.out)) : w.heap.size ≤ gb298)); clear HB; have HB := n0_; have BK298 := n1_; have GW298 := n2_; have GE298 := n3_; clear n0_ n1_ n2_ n3_; clear hb hbox hg) | ((with_reducible refine gate_callee (f := 12) rfl ?_); refine goesL_ (some 17) rfl rfl Try.func12 (by kernel_rfl) rfl #[.slice A1 l1.length c1, .int .i64 1048576] rfl (by (try simp only [List.map_toArray, List.map_cons, List.map_nil]); first | done | rfl | (simp only [List.length_drop, List.length_take]; rfl)) ?_; (with_reducible refine (laws_szClaimS.calls k _ _ l1 1048576 t299 _ ?side1 ?side2 A5.out).mono ?_); (case side1 => exact Kd.C_below (Kd.C_below HR1.out HB.out) lt_); (case side2 => exact HC1.out); rintro e w12 ⟨rfl, hb⟩; refine ⟨_, rfl, ?_⟩; have n0_ := Aside0.mk (blk_at BK298.out hb); have n1_ := Aside0.mk (below_step (at_ HB.out) hb); clear BK298; clear HB; have BK298 := n0_; have HB := n1_; clear n0_ n1_; (try clear hb); (try clear hb2); (try clear hk); (try clear hi)) | ((with_reducible refine gate_callee (f := 30) rfl ?_); refine goesL_ (some 22) rfl rfl Try.func30 (by kernel_rfl) rfl #[.slice A2 l2.length c2, .int .i64 t299] rfl (by (try simp only [List.map_toArray, List.map_cons, List.map_nil]); first | done | rfl | (simp only [List.length_drop, List.length_take]; rfl)) ?_; (with_reducible refine (laws_szMarkS.calls _ _ l2 t299 t300 _ ?side1 ?side2 A9.out).mono ?_); (case side1 => exact Kd.C_below (Kd.C_below HR2.out HB.out) lt_); (case side2 => exact HC2.out); rintro e w' ⟨rfl, ⟨nd, rfl⟩⟩; refine ⟨_, rfl, ?_⟩))
   go_ret
   exact ⟨by first | rfl | (simp [errW_none, errW_some] <;> rfl) | (simp [*, errW_none, errW_some] <;> rfl), at_ HB.out⟩
  ·rw [if_neg c10] at H
   have c10b0 : decide (t300 < 0) = false := decide_eq_false c10
   clear c10
   replace H := Option.bind_eq_some_iff.mp H
   obtain ⟨t301, A130, H⟩ := H
   try dsimp only at H
   have A13 := Aside0.mk A130
   clear A130
   by_cases c14 : t301 < 0
   ·rw [if_pos c14] at H
    have c14b0 : decide (t301 < 0) = true := decide_eq_true c14
    clear c14
    obtain rfl := Option.some.inj H
    go_enter Try.func8, Try.ntmps8
    go_wp2_with (first | ((with_reducible refine gate_dst (N := 7) rfl ?_); refine box_event ?hg (N := 7) ?hd (cs := #[.int .i64 a3_0, .slice A3_1 l3_1.length c3_1]) (t := 57) ?hr ?_; (case hd => rfl); (case hg => rfl); (case hr => first | (go_simp; done) | (go_simp; rfl)); intro gb298 hg w15 hbox hb; have n0_ := Aside0.mk (below_step (below_at HB.out) hb); have n1_ := Aside0.mk (hbox); have n2_ := Aside0.mk ((by rw [hg]; exact (below_size (below_at HB.out)) : w.heap.size ≤ gb298)); have n3_ := Aside0.mk ((by rw [hg]; exact (below_size (below_at HB.out)) : w.heap.size ≤ gb298)); clear HB; have HB := n0_; have BK298 := n1_; have GW298 := n2_; have GE298 := n3_; clear n0_ n1_ n2_ n3_; clear hb hbox hg) | ((with_reducible refine gate_callee (f := 12) rfl ?_); refine goesL_ (some 17) rfl rfl Try.func12 (by kernel_rfl) rfl #[.slice A1 l1.length c1, .int .i64 1048576] rfl (by (try simp only [List.map_toArray, List.map_cons, List.map_nil]); first | done | rfl | (simp only [List.length_drop, List.length_take]; rfl)) ?_; (with_reducible refine (laws_szClaimS.calls k _ _ l1 1048576 t299 _ ?side1 ?side2 A5.out).mono ?_); (case side1 => exact Kd.C_below (Kd.C_below HR1.out HB.out) lt_); (case side2 => exact HC1.out); rintro e w16 ⟨rfl, hb⟩; refine ⟨_, rfl, ?_⟩; have n0_ := Aside0.mk (blk_at BK298.out hb); have n1_ := Aside0.mk (below_step (at_ HB.out) hb); clear BK298; clear HB; have BK298 := n0_; have HB := n1_; clear n0_ n1_; (try clear hb); (try clear hb2); (try clear hk); (try clear hi)) | ((with_reducible refine gate_callee (f := 30) rfl ?_); refine goesL_ (some 22) rfl rfl Try.func30 (by kernel_rfl) rfl #[.slice A2 l2.length c2, .int .i64 t299] rfl (by (try simp only [List.map_toArray, List.map_cons, List.map_nil]); first | done | rfl | (simp only [List.length_drop, List.length_take]; rfl)) ?_; (with_reducible refine (laws_szMarkS.calls _ _ l2 t299 t300 _ ?side1 ?side2 A9.out).mono ?_); (case side1 => exact Kd.C_below (Kd.C_below HR2.out HB.out) lt_); (case side2 => exact HC2.out); rintro e w' ⟨rfl, ⟨nd, rfl⟩⟩; refine ⟨_, rfl, ?_⟩; have hcz17_0 := blk_cell BK298.out 0; have hcz17_1 := blk_cell BK298.out 1; have hfz17_0 := blk_frozen BK298.out 0; have hfz17_1 := blk_frozen BK298.out 1) | ((with_reducible refine gate_callee (f := 31) rfl ?_); refine goesL_ (some 27) rfl rfl Try.func31 (by kernel_rfl) rfl #[.agg #[.int .i64 a3_0, .slice A3_1 l3_1.length c3_1], .int .i64 t300] rfl (by (try simp only [List.map_toArray, List.map_cons, List.map_nil]); first | done | rfl | (simp only [List.length_drop, List.length_take]; rfl)) ?_; (with_reducible refine (laws_szProof.calls a3_0 _ _ l3_1 t300 t301 _ ?side1 ?side2 A13.out).mono ?_); (case side1 => repeat (first | exact (Kd.C_below HR3_1.out (at_ HB.out)) | (with_reducible refine Kd.C_alloc ?_ _) | (with_reducible refine Kd.C_drewN ?_ _) | (with_reducible refine Kd.C_drew ?_))); (case side2 => exact HC3_1.out); rintro e w18 ⟨rfl, hb⟩; refine ⟨_, rfl, ?_⟩; have n0_ := Aside0.mk (blk_at BK298.out hb); have n1_ := Aside0.mk (below_step (at_ HB.out) hb); clear BK298; clear HB; have BK298 := n0_; have HB := n1_; clear n0_ n1_; (try clear hb); (try clear hb2); (try clear hk); (try clear hi)))
    go_ret
    exact ⟨by first | rfl | (simp [errW_none, errW_some] <;> rfl) | (simp [*, errW_none, errW_some] <;> rfl), at_ HB.out⟩
   ·rw [if_neg c14] at H
    have c14b0 : decide (t301 < 0) = false := decide_eq_false c14
    clear c14
    replace H := Option.bind_eq_some_iff.mp H
    obtain ⟨t302, A190, H⟩ := H
    try dsimp only at H
    have A19 := Aside0.mk A190
    clear A190
    replace H := Option.bind_eq_some_iff.mp H
    obtain ⟨t305, A200, H⟩ := H
    try dsimp only at H
    have A20 := Aside0.mk A200
    clear A200
    replace H := Option.bind_eq_some_iff.mp H
    obtain ⟨⟨t308, t309⟩, A210, H⟩ := H
    try dsimp only at H
    have A21 := Aside0.mk A210
    clear A210
    replace H := Option.bind_eq_some_iff.mp H
    obtain ⟨t312, A220, H⟩ := H
    try dsimp only at H
    have A22 := Aside0.mk A220
    clear A220
    replace H := Option.bind_eq_some_iff.mp H
    obtain ⟨t313, A230, H⟩ := H
    try dsimp only at H
    have A23 := Aside0.mk A230
    clear A230
    replace H := Option.bind_eq_some_iff.mp H
    obtain ⟨t316, A240, H⟩ := H
    try dsimp only at H
    have A24 := Aside0.mk A240
    clear A240
    replace H := Option.bind_eq_some_iff.mp H
    obtain ⟨⟨t319, t320⟩, A250, H⟩ := H
    try dsimp only at H
    have A25 := Aside0.mk A250
    clear A250
    replace H := Option.bind_eq_some_iff.mp H
    obtain ⟨t324, A260, H⟩ := H
    try dsimp only at H
    have A26 := Aside0.mk A260
    clear A260
    by_cases c27 : (t324 != t312) = true
    ·rw [if_pos c27] at H
     have c27b0 : (t324 != t312) = true := c27
     (try (have c27b1 : decide (t324 = t312) = false := by simpa using c27))
     (try (have c27b2 : (t324 == t312) = false := by simpa using c27))
     (try (have c27b3 : ¬ (t324 = t312) := by simpa using c27))
     clear c27
     obtain rfl := Option.some.inj H
     go_enter Try.func8, Try.ntmps8
     try go_wp2_with (first | ((with_reducible refine gate_dst (N := 7) rfl ?_); refine box_event ?hg (N := 7) ?hd (cs := #[.int .i64 a3_0, .slice A3_1 l3_1.length c3_1]) (t := 57) ?hr ?_; (case hd => rfl); (case hg => rfl); (case hr => first | (go_simp; done) | (go_simp; rfl)); intro gb298 hg w28 hbox hb; have n0_ := Aside0.mk (below_step (below_at HB.out) hb); have n1_ := Aside0.mk (hbox); have n2_ := Aside0.mk ((by rw [hg]; exact (below_size (below_at HB.out)) : w.heap.size ≤ gb298)); have n3_ := Aside0.mk ((by rw [hg]; exact (below_size (below_at HB.out)) : w.heap.size ≤ gb298)); clear HB; have HB := n0_; have BK298 := n1_; have GW298 := n2_; have GE298 := n3_; clear n0_ n1_ n2_ n3_; clear hb hbox hg) | ((with_reducible refine gate_callee (f := 12) rfl ?_); refine goesL_ (some 17) rfl rfl Try.func12 (by kernel_rfl) rfl #[.slice A1 l1.length c1, .int .i64 1048576] rfl (by (try simp only [List.map_toArray, List.map_cons, List.map_nil]); first | done | rfl | (simp only [List.length_drop, List.length_take]; rfl)) ?_; (with_reducible refine (laws_szClaimS.calls k _ _ l1 1048576 t299 _ ?side1 ?side2 A5.out).mono ?_); (case side1 => exact Kd.C_below (Kd.C_below HR1.out HB.out) lt_); (case side2 => exact HC1.out); rintro e w29 ⟨rfl, hb⟩; refine ⟨_, rfl, ?_⟩; have n0_ := Aside0.mk (blk_at BK298.out hb); have n1_ := Aside0.mk (below_step (at_ HB.out) hb); clear BK298; clear HB; have BK298 := n0_; have HB := n1_; clear n0_ n1_; (try clear hb); (try clear hb2); (try clear hk); (try clear hi)) | ((with_reducible refine gate_callee (f := 30) rfl ?_); refine goesL_ (some 22) rfl rfl Try.func30 (by kernel_rfl) rfl #[.slice A2 l2.length c2, .int .i64 t299] rfl (by (try simp only [List.map_toArray, List.map_cons, List.map_nil]); first | done | rfl | (simp only [List.length_drop, List.length_take]; rfl)) ?_; (with_reducible refine (laws_szMarkS.calls _ _ l2 t299 t300 _ ?side1 ?side2 A9.out).mono ?_); (case side1 => exact Kd.C_below (Kd.C_below HR2.out HB.out) lt_); (case side2 => exact HC2.out); rintro e w' ⟨rfl, ⟨nd, rfl⟩⟩; refine ⟨_, rfl, ?_⟩; (try (rw [drewN_self w29]; generalize hq_ : World.drewN w29 _ = w29; have n0_ : Aside0 (w29.heap[gb298]? = some (.cells #[.int .i64 a3_0, .slice A3_1 l3_1.length c3_1] 57 (0, 0))) := ⟨by rw [← hq_]; exact (by (with_reducible repeat (first | refine blk_drewN ?_ _ | refine blk_drew ?_ | refine blk_alloc ?_ _)); exact BK298.out)⟩; have n1_ : Aside0 (Below w.heap.size w w29) := ⟨by rw [← hq_]; exact (at_ HB.out)⟩; clear BK298 HB hq_; have BK298 := n0_; have HB := n1_; clear n0_ n1_)); have hcz30_0 := blk_cell BK298.out 0; have hcz30_1 := blk_cell BK298.out 1; have hfz30_0 := blk_frozen BK298.out 0; have hfz30_1 := blk_frozen BK298.out 1) | ((with_reducible refine gate_callee (f := 31) rfl ?_); refine goesL_ (some 27) rfl rfl Try.func31 (by kernel_rfl) rfl #[.agg #[.int .i64 a3_0, .slice A3_1 l3_1.length c3_1], .int .i64 t300] rfl (by (try simp only [List.map_toArray, List.map_cons, List.map_nil]); first | done | rfl | (simp only [List.length_drop, List.length_take]; rfl)) ?_; (with_reducible refine (laws_szProof.calls a3_0 _ _ l3_1 t300 t301 _ ?side1 ?side2 A13.out).mono ?_); (case side1 => exact Kd.C_below (Kd.C_below HR3_1.out HB.out) lt_); (case side2 => exact HC3_1.out); rintro e w31 ⟨rfl, hb⟩; refine ⟨_, rfl, ?_⟩; have n0_ := Aside0.mk (blk_at BK298.out hb); have n1_ := Aside0.mk (below_step (at_ HB.out) hb); clear BK298; clear HB; have BK298 := n0_; have HB := n1_; clear n0_ n1_; (try clear hb); (try clear hb2); (try clear hk); (try clear hi)))
     have n0_ := Aside0.mk (blk_drew BK298.out)
     have n1_ := Aside0.mk (below_drew1 HB.out)
     clear BK298
     clear HB
     have BK298 := n0_
     have HB := n1_
     clear n0_ n1_
     refine start_ (n := 9) (S := fun w' => w'.cell? ⟨gb298, 0, none⟩ = some (.int .i64 a3_0) ∧ w'.cell? ⟨gb298, 1, none⟩ = some (.slice A3_1 l3_1.length c3_1)) (ds := []) #[false, false, false, false, false, false, false, false, false] (by kernel_rfl) rfl rfl ⟨(blk_cell BK298.out 0).trans rfl, (blk_cell BK298.out 1).trans rfl⟩ (fun hHeld => ?_); refine with_tabW laws_FnExactProofOk.tab11 laws_FnExactProofOk.bits11 (fun HT_ HW_ => ?_)
     generalize w31.drew = w32 at BK298 HB hHeld ⊢
     refine pure_ (i := 0) (N := some 30) (v := ?_) (a' := ?_) #[true, false, false, false, false, false, false, false, false] rfl rfl (any_of HT_.out (by kernel_rfl)) (fun _ _ _ h => h) (Or.inl ⟨by rfl, ?_⟩) ?_ ?_
     rotate_left
     ·intro w'
      go_simp
      with_reducible rfl
     rotate_left
     ·simp only [Act.put, z0_, z1_, z2_, i64_w, i32_w]
      rfl
     refine pure_ (i := 1) (N := some 31) (v := ?_) (a' := ?_) #[true, true, false, false, false, false, false, false, false] rfl rfl (any_of HT_.out (by kernel_rfl)) (fun _ _ _ h => h) (Or.inl ⟨by rfl, ?_⟩) ?_ ?_
     rotate_left
     ·intro w'
      go_simp
      with_reducible rfl
     rotate_left
     ·simp only [Act.put, z0_, z1_, z2_, i64_w, i32_w]
      rfl
     refine pure_ (i := 3) (N := some 33) (v := ?_) (a' := ?_) #[true, true, false, true, false, false, false, false, false] rfl rfl (any_of HT_.out (by kernel_rfl)) (fun _ _ _ h => h) (Or.inl ⟨by rfl, ?_⟩) ?_ ?_
     rotate_left
     ·intro w'
      go_simp
      with_reducible rfl
     rotate_left
     ·simp only [Act.put, z0_, z1_, z2_, i64_w, i32_w]
      rfl
     refine take_ (i := 5) (N := some 35) (v := ?_) (a' := ?_) #[true, true, false, true, false, true, false, false, false] rfl rfl (take_ofW HT_.out HW_.out (by kernel_rfl)) (fun _ _ _ h => h) (Or.inl ⟨by rfl, ?_⟩) hHeld ?_ ?_
     rotate_left
     ·rintro w' ⟨s0, s1⟩
      go_simp
      with_reducible rfl
     rotate_left
     ·simp only [Act.put, z0_, z1_, z2_, i64_w, i32_w]
      rfl
     refine one_ (i := 2) (N := some 32) #[true, true, true, true, false, true, false, false, false] rfl rfl (one_of HT_.out (by kernel_rfl)) (by decide) (fun K hK => ?_)
     refine goes_ Try.func14 (by kernel_rfl) rfl #[.slice A1 l1.length c1] (by rfl) rfl rfl (by (try simp only [List.map_toArray, List.map_cons, List.map_nil]); first | done | rfl | (simp only [List.length_drop, List.length_take]; rfl)) ?_
     with_reducible refine (laws_toClaimS.calls k _ _ l1 t302 _ ?side1 ?side2 A19.out).mono ?_
     (case side1 => exact Kd.C_below (Kd.C_below HR1.out HB.out) lt_)
     (case side2 => exact HC1.out)
     rintro e w33 ⟨v303, rfl, ho0, hb⟩
     refine ⟨_, rfl, ?_⟩
     have n0_ := Aside0.mk (Kd.S_lower ho0 (below_size (at_ HB.out)))
     have n1_ := Aside0.mk (blk_at BK298.out hb)
     have n2_ := Aside0.mk (below_step (at_ HB.out) hb)
     clear BK298
     clear HB
     have HO304 := n0_
     have BK298 := n1_
     have HB := n2_
     clear n0_ n1_ n2_
     (try clear hb)
     (try clear hb2)
     (try clear hk)
     (try clear hi)
     (try clear ho0)
     refine hK.out _ _ ⟨(blk_cell BK298.out 0).trans rfl, (blk_cell BK298.out 1).trans rfl⟩ (fun hHeld => ?_)
     clear hK K
     refine norm_ (a' := ?_) ?_ ?_
     rotate_left
     ·show Act.put _ (some 32) _ = _
      simp only [Act.put, z0_, z1_, z2_, i64_w, i32_w]
      rfl
     refine one_ (i := 4) (N := some 34) #[true, true, true, true, true, true, false, false, false] rfl rfl (one_of HT_.out (by kernel_rfl)) (by decide) (fun K hK => ?_)
     refine goes_ Try.func33 (by kernel_rfl) rfl #[.slice A2 l2.length c2] (by rfl) rfl rfl (by (try simp only [List.map_toArray, List.map_cons, List.map_nil]); first | done | rfl | (simp only [List.length_drop, List.length_take]; rfl)) ?_
     with_reducible refine (laws_toMarkS.calls k _ _ l2 t305 _ ?side1 ?side2 A20.out).mono ?_
     (case side1 => exact Kd.C_below (Kd.C_below HR2.out HB.out) lt_)
     (case side2 => exact HC2.out)
     rintro e w34 ⟨v306, rfl, ho0, hb⟩
     refine ⟨_, rfl, ?_⟩
     have n0_ := Aside0.mk (Kd.S_elder' (Kd.S_below HO304.out lt_) (Kd.R_base ho0) hb)
     have n1_ := Aside0.mk (Kd.R_lower ho0 (below_size (at_ HB.out)))
     have n2_ := Aside0.mk (blk_at BK298.out hb)
     have n3_ := Aside0.mk (below_step (at_ HB.out) hb)
     clear HO304
     clear BK298
     clear HB
     have HO304 := n0_
     have HO307 := n1_
     have BK298 := n2_
     have HB := n3_
     clear n0_ n1_ n2_ n3_
     (try clear hb)
     (try clear hb2)
     (try clear hk)
     (try clear hi)
     (try clear ho0)
     refine hK.out _ _ ⟨(blk_cell BK298.out 0).trans rfl, (blk_cell BK298.out 1).trans rfl⟩ (fun hHeld => ?_)
     clear hK K
     refine norm_ (a' := ?_) ?_ ?_
     rotate_left
     ·show Act.put _ (some 34) _ = _
      simp only [Act.put, z0_, z1_, z2_, i64_w, i32_w]
      rfl
     refine one_ (i := 6) (N := some 36) #[true, true, true, true, true, true, true, false, false] rfl rfl (one_of HT_.out (by kernel_rfl)) (by decide) (fun K hK => ?_)
     refine goes_ Try.func34 (by kernel_rfl) rfl #[.agg #[.int .i64 a3_0, .slice A3_1 l3_1.length c3_1]] (by rfl) rfl rfl (by (try simp only [List.map_toArray, List.map_cons, List.map_nil]); first | done | rfl | (simp only [List.length_drop, List.length_take]; rfl)) ?_
     with_reducible refine (laws_toProof.calls k a3_0 _ _ l3_1 t308 t309 _ ?side1 ?side2 A21.out).mono ?_
     (case side1 => exact Kd.C_below (Kd.C_below HR3_1.out HB.out) lt_)
     (case side2 => exact HC3_1.out)
     rintro e w35 ⟨v310, rfl, ho0, hb⟩
     refine ⟨_, rfl, ?_⟩
     have n0_ := Aside0.mk (Kd.S_below (Kd.S_below HO304.out lt_) hb)
     have n1_ := Aside0.mk (Kd.R_below (Kd.R_below HO307.out lt_) hb)
     have n2_ := Aside0.mk (Kd.R_lower ho0 (below_size (at_ HB.out)))
     have n3_ := Aside0.mk (blk_at BK298.out hb)
     have n4_ := Aside0.mk (below_step (at_ HB.out) hb)
     clear HO304
     clear HO307
     clear BK298
     clear HB
     have HO304 := n0_
     have HO307 := n1_
     have HO311 := n2_
     have BK298 := n3_
     have HB := n4_
     clear n0_ n1_ n2_ n3_ n4_
     (try clear hb)
     (try clear hb2)
     (try clear hk)
     (try clear hi)
     (try clear ho0)
     obtain ⟨Ao36, co36, eo36⟩ := Kd.S_slice HO304.out
     (first | subst eo36 | (injection eo36 with f1_ f2_ f3_; have f4_ := f1_.symm; have f5_ := f3_.symm; clear f1_ f2_ f3_; subst f4_; subst f5_))
     obtain ⟨Ao37, co37, eo37⟩ := Kd.R_slice HO307.out
     (first | subst eo37 | (injection eo37 with f1_ f2_ f3_; have f4_ := f1_.symm; have f5_ := f3_.symm; clear f1_ f2_ f3_; subst f4_; subst f5_))
     obtain ⟨Ao38, co38, eo38⟩ := Kd.R_slice HO311.out
     (first | subst eo38 | (injection eo38 with f1_ f2_ f3_; have f4_ := f1_.symm; have f5_ := f3_.symm; clear f1_ f2_ f3_; subst f4_; subst f5_))
     refine hK.out _ _ ⟨(blk_cell BK298.out 0).trans rfl, (blk_cell BK298.out 1).trans rfl⟩ (fun hHeld => ?_)
     clear hK K
     refine norm_ (a' := ?_) ?_ ?_
     rotate_left
     ·show Act.put _ (some 36) _ = _
      simp only [Act.put, z0_, z1_, z2_, i64_w, i32_w]
      rfl
     refine one_ (i := 7) (N := some 37) #[true, true, true, true, true, true, true, true, false] rfl rfl (one_of HT_.out (by kernel_rfl)) (by decide) (fun K hK => ?_)
     refine goes_ Try.func32 (by kernel_rfl) rfl #[.int .i64 a0, .slice Ao36 t302.length co36, .slice Ao37 t305.length co37, .agg #[.int .i64 t308, .slice Ao38 t309.length co38]] (by rfl) rfl rfl (by (try simp only [List.map_toArray, List.map_cons, List.map_nil]); first | done | rfl | (simp only [List.length_drop, List.length_take]; rfl)) ?_
     with_reducible refine (spec_ProofOk.calls k a0 _ _ t302 _ _ t305 t308 _ _ t309 t312 _ ?side1 ?side2 ?side3 ?side4 ?side5 ?side6 A22.out).mono ?_
     (case side1 => exact Kd.C_below (Kd.S_reads' HO304.out).2.2 lt_)
     (case side2 => exact (Kd.S_reads' HO304.out).2.1)
     (case side3 => exact Kd.C_below (Kd.R_reads' HO307.out).2.2 lt_)
     (case side4 => exact (Kd.R_reads' HO307.out).2.1)
     (case side5 => exact Kd.C_below (Kd.R_reads' HO311.out).2.2 lt_)
     (case side6 => exact (Kd.R_reads' HO311.out).2.1)
     rintro e w39 ⟨rfl, hb⟩
     refine ⟨_, rfl, ?_⟩
     have n0_ := Aside0.mk (Kd.S_below (Kd.S_below HO304.out lt_) hb)
     have n1_ := Aside0.mk (Kd.R_below (Kd.R_below HO307.out lt_) hb)
     have n2_ := Aside0.mk (Kd.R_below (Kd.R_below HO311.out lt_) hb)
     have n3_ := Aside0.mk (blk_at BK298.out hb)
     have n4_ := Aside0.mk (below_step (at_ HB.out) hb)
     clear HO304
     clear HO307
     clear HO311
     clear BK298
     clear HB
     have HO304 := n0_
     have HO307 := n1_
     have HO311 := n2_
     have BK298 := n3_
     have HB := n4_
     clear n0_ n1_ n2_ n3_ n4_
     (try clear hb)
     (try clear hb2)
     (try clear hk)
     (try clear hi)
     refine hK.out _ _ ⟨(blk_cell BK298.out 0).trans rfl, (blk_cell BK298.out 1).trans rfl⟩ (fun hHeld => ?_)
     clear hK K
     refine norm_ (a' := ?_) ?_ ?_
     rotate_left
     ·show Act.put _ (some 37) _ = _
      simp only [Act.put, z0_, z1_, z2_, i64_w, i32_w]
      rfl
     refine pure_ (i := 8) (N := some 10) (v := ?_) (a' := ?_) #[true, true, true, true, true, true, true, true, true] rfl rfl (any_of HT_.out (by kernel_rfl)) (fun _ _ _ h => h) (Or.inl ⟨by rfl, ?_⟩) ?_ ?_
     rotate_left
     ·intro w'
      go_simp
      with_reducible rfl
     rotate_left
     ·simp only [Act.put, z0_, z1_, z2_, i64_w, i32_w]
      rfl
     refine done_ (done_of HT_.out (by kernel_rfl)) ?_
     try go_wp2_with (first | ((with_reducible refine gate_callee (f := 14) rfl ?_); refine goesL_ (some 39) rfl rfl Try.func14 (by kernel_rfl) rfl #[.slice A1 l1.length c1] rfl (by (try simp only [List.map_toArray, List.map_cons, List.map_nil]); first | done | rfl | (simp only [List.length_drop, List.length_take]; rfl)) ?_; (with_reducible refine (laws_toClaimS.calls k _ _ l1 t313 _ ?side1 ?side2 A23.out).mono ?_); (case side1 => exact Kd.C_below (Kd.C_below HR1.out HB.out) lt_); (case side2 => exact HC1.out); rintro e w40 ⟨v314, rfl, ho0, hb⟩; refine ⟨_, rfl, ?_⟩; have n0_ := Aside0.mk (Kd.S_elder' (Kd.S_below HO304.out lt_) (Kd.S_base ho0) hb); have n1_ := Aside0.mk (Kd.R_below (Kd.R_below HO307.out lt_) hb); have n2_ := Aside0.mk (Kd.R_below (Kd.R_below HO311.out lt_) hb); have n3_ := Aside0.mk (Kd.S_lower (Kd.S_new' (Kd.S_new' ho0 (Kd.S_lt (Kd.S_below HO304.out lt_))) (Kd.R_lt (Kd.R_below HO307.out lt_))) (below_size (at_ HB.out))); have n4_ := Aside0.mk (blk_at BK298.out hb); have n5_ := Aside0.mk (below_step (at_ HB.out) hb); clear HO304; clear HO307; clear HO311; clear BK298; clear HB; have HO304 := n0_; have HO307 := n1_; have HO311 := n2_; have HO315 := n3_; have BK298 := n4_; have HB := n5_; clear n0_ n1_ n2_ n3_ n4_ n5_; (try clear hb); (try clear hb2); (try clear hk); (try clear hi); (try clear ho0)) | ((with_reducible refine gate_callee (f := 33) rfl ?_); refine goesL_ (some 41) rfl rfl Try.func33 (by kernel_rfl) rfl #[.slice A2 l2.length c2] rfl (by (try simp only [List.map_toArray, List.map_cons, List.map_nil]); first | done | rfl | (simp only [List.length_drop, List.length_take]; rfl)) ?_; (with_reducible refine (laws_toMarkS.calls k _ _ l2 t316 _ ?side1 ?side2 A24.out).mono ?_); (case side1 => exact Kd.C_below (Kd.C_below HR2.out HB.out) lt_); (case side2 => exact HC2.out); rintro e w41 ⟨v317, rfl, ho0, hb⟩; refine ⟨_, rfl, ?_⟩; have n0_ := Aside0.mk (Kd.S_elder' (Kd.S_below HO304.out lt_) (Kd.R_base ho0) hb); have n1_ := Aside0.mk (Kd.R_elder' (Kd.R_below HO307.out lt_) (Kd.R_base ho0) hb); have n2_ := Aside0.mk (Kd.R_below (Kd.R_below HO311.out lt_) hb); have n3_ := Aside0.mk (Kd.S_elder' (Kd.S_below HO315.out lt_) (Kd.R_base ho0) hb); have n4_ := Aside0.mk (Kd.R_lower (Kd.R_new' ho0 (Kd.R_lt (Kd.R_below HO307.out lt_))) (below_size (at_ HB.out))); have n5_ := Aside0.mk (blk_at BK298.out hb); have n6_ := Aside0.mk (below_step (at_ HB.out) hb); clear HO304; clear HO307; clear HO311; clear HO315; clear BK298; clear HB; have HO304 := n0_; have HO307 := n1_; have HO311 := n2_; have HO315 := n3_; have HO318 := n4_; have BK298 := n5_; have HB := n6_; clear n0_ n1_ n2_ n3_ n4_ n5_ n6_; (try clear hb); (try clear hb2); (try clear hk); (try clear hi); (try clear ho0); have hcz42_0 := blk_cell BK298.out 0; have hcz42_1 := blk_cell BK298.out 1; have hfz42_0 := blk_frozen BK298.out 0; have hfz42_1 := blk_frozen BK298.out 1) | ((with_reducible refine gate_callee (f := 34) rfl ?_); refine goesL_ (some 43) rfl rfl Try.func34 (by kernel_rfl) rfl #[.agg #[.int .i64 a3_0, .slice A3_1 l3_1.length c3_1]] rfl (by (try simp only [List.map_toArray, List.map_cons, List.map_nil]); first | done | rfl | (simp only [List.length_drop, List.length_take]; rfl)) ?_; (with_reducible refine (laws_toProof.calls k a3_0 _ _ l3_1 t319 t320 _ ?side1 ?side2 A25.out).mono ?_); (case side1 => exact Kd.C_below (Kd.C_below HR3_1.out HB.out) lt_); (case side2 => exact HC3_1.out); rintro e w43 ⟨v321, rfl, ho0, hb⟩; refine ⟨_, rfl, ?_⟩; have n0_ := Aside0.mk (Kd.S_below (Kd.S_below HO304.out lt_) hb); have n1_ := Aside0.mk (Kd.R_below (Kd.R_below HO307.out lt_) hb); have n2_ := Aside0.mk (Kd.R_elder' (Kd.R_below HO311.out lt_) (Kd.R_base ho0) hb); have n3_ := Aside0.mk (Kd.S_below (Kd.S_below HO315.out lt_) hb); have n4_ := Aside0.mk (Kd.R_below (Kd.R_below HO318.out lt_) hb); have n5_ := Aside0.mk (Kd.R_lower (Kd.R_new' ho0 (Kd.R_lt (Kd.R_below HO311.out lt_))) (below_size (at_ HB.out))); have n6_ := Aside0.mk (blk_at BK298.out hb); have n7_ := Aside0.mk (below_step (at_ HB.out) hb); clear HO304; clear HO307; clear HO311; clear HO315; clear HO318; clear BK298; clear HB; have HO304 := n0_; have HO307 := n1_; have HO311 := n2_; have HO315 := n3_; have HO318 := n4_; have HO322 := n5_; have BK298 := n6_; have HB := n7_; clear n0_ n1_ n2_ n3_ n4_ n5_ n6_ n7_; (try clear hb); (try clear hb2); (try clear hk); (try clear hi); (try clear ho0)) | ((with_reducible refine gate_dst (N := 13) rfl ?_); refine box_event ?hg (N := 13) ?hd (cs := #[.int .i64 0, .slice none 0 0]) (t := 51) ?hr ?_; (case hd => rfl); (case hg => rfl); (case hr => first | (go_simp; done) | (go_simp; rfl)); intro gb323 hg w44 hbox hb; have n0_ := Aside0.mk (Kd.S_below (Kd.S_below HO304.out lt_) hb); have n1_ := Aside0.mk (Kd.R_below (Kd.R_below HO307.out lt_) hb); have n2_ := Aside0.mk (Kd.R_below (Kd.R_below HO311.out lt_) hb); have n3_ := Aside0.mk (Kd.S_below (Kd.S_below HO315.out lt_) hb); have n4_ := Aside0.mk (Kd.R_below (Kd.R_below HO318.out lt_) hb); have n5_ := Aside0.mk (Kd.R_below (Kd.R_below HO322.out lt_) hb); have n6_ := Aside0.mk (blk_at BK298.out hb); have n7_ := Aside0.mk (below_step (at_ HB.out) hb); have n8_ := Aside0.mk (hbox); have n9_ := Aside0.mk ((by rw [hg]; exact (below_size (at_ HB.out)) : w.heap.size ≤ gb323)); have n10_ := Aside0.mk ((by rw [hg]; exact (below_size (at_ HB.out)) : w.heap.size ≤ gb323)); have n11_ := Aside0.mk ((by rw [hg]; exact Nat.ne_of_lt (blk_lt (g := gb298) (o := .cells #[.int .i64 a3_0, .slice A3_1 l3_1.length c3_1] 57 (0, 0)) (by (with_reducible repeat (first | refine blk_drewN ?_ _ | refine blk_drew ?_ | refine blk_alloc ?_ _)); exact BK298.out)) : gb298 ≠ gb323)); have n12_ := Aside0.mk ((by rw [hg]; exact Nat.ne_of_gt (blk_lt (g := gb298) (o := .cells #[.int .i64 a3_0, .slice A3_1 l3_1.length c3_1] 57 (0, 0)) (by (with_reducible repeat (first | refine blk_drewN ?_ _ | refine blk_drew ?_ | refine blk_alloc ?_ _)); exact BK298.out)) : gb323 ≠ gb298)); clear HO304; clear HO307; clear HO311; clear HO315; clear HO318; clear HO322; clear BK298; clear HB; have HO304 := n0_; have HO307 := n1_; have HO311 := n2_; have HO315 := n3_; have HO318 := n4_; have HO322 := n5_; have BK298 := n6_; have HB := n7_; have BK323 := n8_; have GW323 := n9_; have GE323 := n10_; have NB298_323 := n11_; have NB323_298 := n12_; clear n0_ n1_ n2_ n3_ n4_ n5_ n6_ n7_ n8_ n9_ n10_ n11_ n12_; clear hb hbox hg; have hnb45 := NB323_298.out; have hnc45 := NB298_323.out; have hcz46_0 := blk_cell BK323.out 0; have hcz46_1 := blk_cell BK323.out 1; have hfz46_0 := blk_frozen BK323.out 0; have hfz46_1 := blk_frozen BK323.out 1; obtain ⟨Ao47, co47, eo47⟩ := Kd.R_slice HO322.out; subst eo47; obtain ⟨Ao48, co48, eo48⟩ := Kd.S_slice HO315.out; subst eo48; obtain ⟨Ao49, co49, eo49⟩ := Kd.R_slice HO318.out; subst eo49) | ((with_reducible refine gate_callee (f := 35) rfl ?_); refine goesL_ (some 48) rfl rfl Try.func35 (by kernel_rfl) rfl #[.int .i64 a0, .slice Ao48 t313.length co48, .slice Ao49 t316.length co49, .agg #[.int .i64 t319, .slice Ao47 t320.length co47]] rfl (by (try simp only [List.map_toArray, List.map_cons, List.map_nil]); first | done | rfl | (simp only [List.length_drop, List.length_take]; rfl)) ?_; (with_reducible refine (impl_ProofOk.calls a0 _ _ t313 _ _ t316 t319 _ _ t320 t324 _ ?side1 ?side2 ?side3 ?side4 ?side5 ?side6 A26.out).mono ?_); (case side1 => refine (Kd.S_reads' (e := 38) (base := w.heap.size) (ok := fun k_ => (((True ∧ some k_ ≠ (.slice Ao36 t302.length co36 : Value).ownBlock) ∧ some k_ ≠ (.slice Ao37 t305.length co37 : Value).ownBlock) ∧ some k_ ≠ (.slice Ao49 t316.length co49 : Value).ownBlock)) (n := t313.length) (c := co48) ?_).2.2; exact (by (with_reducible repeat (first | apply Kd.S_alloc | apply Kd.S_drewN | apply Kd.S_drew)); exact (Kd.S_mono (Kd.S_far (p := ⟨gb323, 1, none⟩) (Kd.S_far (p := ⟨gb323, 0, none⟩) (Kd.S_types HO315.out BK323.out (by decide)) (fun _ hk => hk.2) (.int .i64 t319)) (fun _ hk => hk.2) (.slice Ao47 t320.length co47)) (fun _ h_ => h_.1)))); (case side2 => exact (Kd.S_reads' HO315.out).2.1); (case side3 => refine (Kd.R_reads' (e := 47) (base := w.heap.size) (ok := fun k_ => (True ∧ some k_ ≠ (.slice Ao37 t305.length co37 : Value).ownBlock)) (n := t316.length) (c := co49) ?_).2.2; exact (by (with_reducible repeat (first | apply Kd.R_alloc | apply Kd.R_drewN | apply Kd.R_drew)); exact (Kd.R_mono (Kd.R_far (p := ⟨gb323, 1, none⟩) (Kd.R_far (p := ⟨gb323, 0, none⟩) (Kd.R_types HO318.out BK323.out (by decide)) (fun _ hk => hk.2) (.int .i64 t319)) (fun _ hk => hk.2) (.slice Ao47 t320.length co47)) (fun _ h_ => h_.1)))); (case side4 => exact (Kd.R_reads' HO318.out).2.1); (case side5 => refine (Kd.R_reads' (e := 93) (base := w.heap.size) (ok := fun k_ => (True ∧ some k_ ≠ (.slice Ao38 t309.length co38 : Value).ownBlock)) (n := t320.length) (c := co47) ?_).2.2; exact (by (with_reducible repeat (first | apply Kd.R_alloc | apply Kd.R_drewN | apply Kd.R_drew)); exact (Kd.R_mono (Kd.R_far (p := ⟨gb323, 1, none⟩) (Kd.R_far (p := ⟨gb323, 0, none⟩) (Kd.R_types HO322.out BK323.out (by decide)) (fun _ hk => hk.2) (.int .i64 t319)) (fun _ hk => hk.2) (.slice Ao47 t320.length co47)) (fun _ h_ => h_.1)))); (case side6 => exact (Kd.R_reads' HO322.out).2.1); rintro e w50 ⟨rfl, hb⟩; refine ⟨_, rfl, ?_⟩; have n0_ := Aside0.mk (Kd.S_below (by (with_reducible repeat (first | apply Kd.S_alloc | apply Kd.S_drewN | apply Kd.S_drew)); exact (Kd.S_mono (Kd.S_far (p := ⟨gb323, 1, none⟩) (Kd.S_far (p := ⟨gb323, 0, none⟩) (Kd.S_types HO304.out BK323.out (by decide)) (fun _ hk => hk.2) (.int .i64 t319)) (fun _ hk => hk.2) (.slice Ao47 t320.length co47)) (fun _ h_ => h_.1))) hb); have n1_ := Aside0.mk (Kd.R_below (by (with_reducible repeat (first | apply Kd.R_alloc | apply Kd.R_drewN | apply Kd.R_drew)); exact (Kd.R_mono (Kd.R_far (p := ⟨gb323, 1, none⟩) (Kd.R_far (p := ⟨gb323, 0, none⟩) (Kd.R_types HO307.out BK323.out (by decide)) (fun _ hk => hk.2) (.int .i64 t319)) (fun _ hk => hk.2) (.slice Ao47 t320.length co47)) (fun _ h_ => h_.1))) hb); have n2_ := Aside0.mk (Kd.R_below (by (with_reducible repeat (first | apply Kd.R_alloc | apply Kd.R_drewN | apply Kd.R_drew)); exact (Kd.R_mono (Kd.R_far (p := ⟨gb323, 1, none⟩) (Kd.R_far (p := ⟨gb323, 0, none⟩) (Kd.R_types HO311.out BK323.out (by decide)) (fun _ hk => hk.2) (.int .i64 t319)) (fun _ hk => hk.2) (.slice Ao47 t320.length co47)) (fun _ h_ => h_.1))) hb); have n3_ := Aside0.mk (Kd.S_below (by (with_reducible repeat (first | apply Kd.S_alloc | apply Kd.S_drewN | apply Kd.S_drew)); exact (Kd.S_mono (Kd.S_far (p := ⟨gb323, 1, none⟩) (Kd.S_far (p := ⟨gb323, 0, none⟩) (Kd.S_types HO315.out BK323.out (by decide)) (fun _ hk => hk.2) (.int .i64 t319)) (fun _ hk => hk.2) (.slice Ao47 t320.length co47)) (fun _ h_ => h_.1))) hb); have n4_ := Aside0.mk (Kd.R_below (by (with_reducible repeat (first | apply Kd.R_alloc | apply Kd.R_drewN | apply Kd.R_drew)); exact (Kd.R_mono (Kd.R_far (p := ⟨gb323, 1, none⟩) (Kd.R_far (p := ⟨gb323, 0, none⟩) (Kd.R_types HO318.out BK323.out (by decide)) (fun _ hk => hk.2) (.int .i64 t319)) (fun _ hk => hk.2) (.slice Ao47 t320.length co47)) (fun _ h_ => h_.1))) hb); have n5_ := Aside0.mk (Kd.R_below (by (with_reducible repeat (first | apply Kd.R_alloc | apply Kd.R_drewN | apply Kd.R_drew)); exact (Kd.R_mono (Kd.R_far (p := ⟨gb323, 1, none⟩) (Kd.R_far (p := ⟨gb323, 0, none⟩) (Kd.R_types HO322.out BK323.out (by decide)) (fun _ hk => hk.2) (.int .i64 t319)) (fun _ hk => hk.2) (.slice Ao47 t320.length co47)) (fun _ h_ => h_.1))) hb); have n6_ := Aside0.mk (blk_below (g := gb298) (o := .cells #[.int .i64 a3_0, .slice A3_1 l3_1.length c3_1] 57 (0, 0)) (by (with_reducible repeat (first | refine blk_drewN ?_ _ | refine blk_drew ?_ | refine blk_alloc ?_ _)); refine blk_far ?_ NB298_323.out _; (with_reducible repeat (first | refine blk_drewN ?_ _ | refine blk_drew ?_ | refine blk_alloc ?_ _)); refine blk_far ?_ NB298_323.out _; (with_reducible repeat (first | refine blk_drewN ?_ _ | refine blk_drew ?_ | refine blk_alloc ?_ _)); exact BK298.out) hb); have n7_ := Aside0.mk (blk_below (g := gb323) (o := .cells #[.int .i64 t319, .slice Ao47 t320.length co47] 51 (0, 0)) (by (with_reducible repeat (first | refine blk_drewN ?_ _ | refine blk_drew ?_ | refine blk_alloc ?_ _)); refine blk_put (cs := #[.int .i64 t319, .slice none 0 0]) ?_ 1 _ rfl; (with_reducible repeat (first | refine blk_drewN ?_ _ | refine blk_drew ?_ | refine blk_alloc ?_ _)); refine blk_put (cs := #[.int .i64 0, .slice none 0 0]) ?_ 0 _ rfl; (with_reducible repeat (first | refine blk_drewN ?_ _ | refine blk_drew ?_ | refine blk_alloc ?_ _)); exact BK323.out) hb); have n8_ := Aside0.mk (below_step (at_ HB.out) hb); clear HO304; clear HO307; clear HO311; clear HO315; clear HO318; clear HO322; clear BK298; clear BK323; clear HB; have HO304 := n0_; have HO307 := n1_; have HO311 := n2_; have HO315 := n3_; have HO318 := n4_; have HO322 := n5_; have BK298 := n6_; have BK323 := n7_; have HB := n8_; clear n0_ n1_ n2_ n3_ n4_ n5_ n6_ n7_ n8_; (try clear hb); (try clear hb2); (try clear hk); (try clear hi)))
     go_ret
     exact ⟨by first | rfl | (simp [errW_none, errW_some] <;> rfl) | (simp [*, errW_none, errW_some] <;> rfl), at_ HB.out⟩
    ·rw [if_neg c27] at H
     have c27b0 : (t324 != t312) = false := by simpa using c27
     (try (have c27b1 : decide (t324 = t312) = true := by simpa using c27))
     (try (have c27b2 : (t324 == t312) = true := by simpa using c27))
     clear c27
     replace H := Option.bind_eq_some_iff.mp H
     obtain ⟨t325, A510, H⟩ := H
     try dsimp only at H
     have A51 := Aside0.mk A510
     clear A510
     replace H := Option.bind_eq_some_iff.mp H
     obtain ⟨t328, A520, H⟩ := H
     try dsimp only at H
     have A52 := Aside0.mk A520
     clear A520
     by_cases c53 : t328 = true
     ·subst c53
      rw [if_pos rfl] at H
      replace H := Option.bind_eq_some_iff.mp H
      obtain ⟨t329, A540, H⟩ := H
      try dsimp only at H
      have A54 := Aside0.mk A540
      clear A540
      replace H := Option.bind_eq_some_iff.mp H
      obtain ⟨t332, A550, H⟩ := H
      try dsimp only at H
      have A55 := Aside0.mk A550
      clear A550
      by_cases c56 : t332 = true
      ·subst c56
       rw [if_pos rfl] at H
       replace H := Option.bind_eq_some_iff.mp H
       obtain ⟨⟨t333, t334⟩, A570, H⟩ := H
       try dsimp only at H
       have A57 := Aside0.mk A570
       clear A570
       replace H := Option.bind_eq_some_iff.mp H
       obtain ⟨t337, A580, H⟩ := H
       try dsimp only at H
       have A58 := Aside0.mk A580
       clear A580
       by_cases c59 : t337 = true
       ·subst c59
        rw [if_pos rfl] at H
        obtain rfl := Option.some.inj H
        go_enter Try.func8, Try.ntmps8
        try go_wp2_with (first | ((with_reducible refine gate_dst (N := 7) rfl ?_); refine box_event ?hg (N := 7) ?hd (cs := #[.int .i64 a3_0, .slice A3_1 l3_1.length c3_1]) (t := 57) ?hr ?_; (case hd => rfl); (case hg => rfl); (case hr => first | (go_simp; done) | (go_simp; rfl)); intro gb298 hg w60 hbox hb; have n0_ := Aside0.mk (below_step (below_at HB.out) hb); have n1_ := Aside0.mk (hbox); have n2_ := Aside0.mk ((by rw [hg]; exact (below_size (below_at HB.out)) : w.heap.size ≤ gb298)); have n3_ := Aside0.mk ((by rw [hg]; exact (below_size (below_at HB.out)) : w.heap.size ≤ gb298)); clear HB; have HB := n0_; have BK298 := n1_; have GW298 := n2_; have GE298 := n3_; clear n0_ n1_ n2_ n3_; clear hb hbox hg) | ((with_reducible refine gate_callee (f := 12) rfl ?_); refine goesL_ (some 17) rfl rfl Try.func12 (by kernel_rfl) rfl #[.slice A1 l1.length c1, .int .i64 1048576] rfl (by (try simp only [List.map_toArray, List.map_cons, List.map_nil]); first | done | rfl | (simp only [List.length_drop, List.length_take]; rfl)) ?_; (with_reducible refine (laws_szClaimS.calls k _ _ l1 1048576 t299 _ ?side1 ?side2 A5.out).mono ?_); (case side1 => exact Kd.C_below (Kd.C_below HR1.out HB.out) lt_); (case side2 => exact HC1.out); rintro e w61 ⟨rfl, hb⟩; refine ⟨_, rfl, ?_⟩; have n0_ := Aside0.mk (blk_at BK298.out hb); have n1_ := Aside0.mk (below_step (at_ HB.out) hb); clear BK298; clear HB; have BK298 := n0_; have HB := n1_; clear n0_ n1_; (try clear hb); (try clear hb2); (try clear hk); (try clear hi)) | ((with_reducible refine gate_callee (f := 30) rfl ?_); refine goesL_ (some 22) rfl rfl Try.func30 (by kernel_rfl) rfl #[.slice A2 l2.length c2, .int .i64 t299] rfl (by (try simp only [List.map_toArray, List.map_cons, List.map_nil]); first | done | rfl | (simp only [List.length_drop, List.length_take]; rfl)) ?_; (with_reducible refine (laws_szMarkS.calls _ _ l2 t299 t300 _ ?side1 ?side2 A9.out).mono ?_); (case side1 => exact Kd.C_below (Kd.C_below HR2.out HB.out) lt_); (case side2 => exact HC2.out); rintro e w' ⟨rfl, ⟨nd, rfl⟩⟩; refine ⟨_, rfl, ?_⟩; (try (rw [drewN_self w61]; generalize hq_ : World.drewN w61 _ = w61; have n0_ : Aside0 (w61.heap[gb298]? = some (.cells #[.int .i64 a3_0, .slice A3_1 l3_1.length c3_1] 57 (0, 0))) := ⟨by rw [← hq_]; exact (by (with_reducible repeat (first | refine blk_drewN ?_ _ | refine blk_drew ?_ | refine blk_alloc ?_ _)); exact BK298.out)⟩; have n1_ : Aside0 (Below w.heap.size w w61) := ⟨by rw [← hq_]; exact (at_ HB.out)⟩; clear BK298 HB hq_; have BK298 := n0_; have HB := n1_; clear n0_ n1_)); have hcz62_0 := blk_cell BK298.out 0; have hcz62_1 := blk_cell BK298.out 1; have hfz62_0 := blk_frozen BK298.out 0; have hfz62_1 := blk_frozen BK298.out 1) | ((with_reducible refine gate_callee (f := 31) rfl ?_); refine goesL_ (some 27) rfl rfl Try.func31 (by kernel_rfl) rfl #[.agg #[.int .i64 a3_0, .slice A3_1 l3_1.length c3_1], .int .i64 t300] rfl (by (try simp only [List.map_toArray, List.map_cons, List.map_nil]); first | done | rfl | (simp only [List.length_drop, List.length_take]; rfl)) ?_; (with_reducible refine (laws_szProof.calls a3_0 _ _ l3_1 t300 t301 _ ?side1 ?side2 A13.out).mono ?_); (case side1 => exact Kd.C_below (Kd.C_below HR3_1.out HB.out) lt_); (case side2 => exact HC3_1.out); rintro e w63 ⟨rfl, hb⟩; refine ⟨_, rfl, ?_⟩; have n0_ := Aside0.mk (blk_at BK298.out hb); have n1_ := Aside0.mk (below_step (at_ HB.out) hb); clear BK298; clear HB; have BK298 := n0_; have HB := n1_; clear n0_ n1_; (try clear hb); (try clear hb2); (try clear hk); (try clear hi)))
        have n0_ := Aside0.mk (blk_drew BK298.out)
        have n1_ := Aside0.mk (below_drew1 HB.out)
        clear BK298
        clear HB
        have BK298 := n0_
        have HB := n1_
        clear n0_ n1_
        refine start_ (n := 9) (S := fun w' => w'.cell? ⟨gb298, 0, none⟩ = some (.int .i64 a3_0) ∧ w'.cell? ⟨gb298, 1, none⟩ = some (.slice A3_1 l3_1.length c3_1)) (ds := []) #[false, false, false, false, false, false, false, false, false] (by kernel_rfl) rfl rfl ⟨(blk_cell BK298.out 0).trans rfl, (blk_cell BK298.out 1).trans rfl⟩ (fun hHeld => ?_); refine with_tabW laws_FnExactProofOk.tab11 laws_FnExactProofOk.bits11 (fun HT_ HW_ => ?_)
        generalize w63.drew = w64 at BK298 HB hHeld ⊢
        refine pure_ (i := 0) (N := some 30) (v := ?_) (a' := ?_) #[true, false, false, false, false, false, false, false, false] rfl rfl (any_of HT_.out (by kernel_rfl)) (fun _ _ _ h => h) (Or.inl ⟨by rfl, ?_⟩) ?_ ?_
        rotate_left
        ·intro w'
         go_simp
         with_reducible rfl
        rotate_left
        ·simp only [Act.put, z0_, z1_, z2_, i64_w, i32_w]
         rfl
        refine pure_ (i := 1) (N := some 31) (v := ?_) (a' := ?_) #[true, true, false, false, false, false, false, false, false] rfl rfl (any_of HT_.out (by kernel_rfl)) (fun _ _ _ h => h) (Or.inl ⟨by rfl, ?_⟩) ?_ ?_
        rotate_left
        ·intro w'
         go_simp
         with_reducible rfl
        rotate_left
        ·simp only [Act.put, z0_, z1_, z2_, i64_w, i32_w]
         rfl
        refine pure_ (i := 3) (N := some 33) (v := ?_) (a' := ?_) #[true, true, false, true, false, false, false, false, false] rfl rfl (any_of HT_.out (by kernel_rfl)) (fun _ _ _ h => h) (Or.inl ⟨by rfl, ?_⟩) ?_ ?_
        rotate_left
        ·intro w'
         go_simp
         with_reducible rfl
        rotate_left
        ·simp only [Act.put, z0_, z1_, z2_, i64_w, i32_w]
         rfl
        refine take_ (i := 5) (N := some 35) (v := ?_) (a' := ?_) #[true, true, false, true, false, true, false, false, false] rfl rfl (take_ofW HT_.out HW_.out (by kernel_rfl)) (fun _ _ _ h => h) (Or.inl ⟨by rfl, ?_⟩) hHeld ?_ ?_
        rotate_left
        ·rintro w' ⟨s0, s1⟩
         go_simp
         with_reducible rfl
        rotate_left
        ·simp only [Act.put, z0_, z1_, z2_, i64_w, i32_w]
         rfl
        refine one_ (i := 2) (N := some 32) #[true, true, true, true, false, true, false, false, false] rfl rfl (one_of HT_.out (by kernel_rfl)) (by decide) (fun K hK => ?_)
        refine goes_ Try.func14 (by kernel_rfl) rfl #[.slice A1 l1.length c1] (by rfl) rfl rfl (by (try simp only [List.map_toArray, List.map_cons, List.map_nil]); first | done | rfl | (simp only [List.length_drop, List.length_take]; rfl)) ?_
        with_reducible refine (laws_toClaimS.calls k _ _ l1 t302 _ ?side1 ?side2 A19.out).mono ?_
        (case side1 => exact Kd.C_below (Kd.C_below HR1.out HB.out) lt_)
        (case side2 => exact HC1.out)
        rintro e w65 ⟨v303, rfl, ho0, hb⟩
        refine ⟨_, rfl, ?_⟩
        have n0_ := Aside0.mk (Kd.S_lower ho0 (below_size (at_ HB.out)))
        have n1_ := Aside0.mk (blk_at BK298.out hb)
        have n2_ := Aside0.mk (below_step (at_ HB.out) hb)
        clear BK298
        clear HB
        have HO304 := n0_
        have BK298 := n1_
        have HB := n2_
        clear n0_ n1_ n2_
        (try clear hb)
        (try clear hb2)
        (try clear hk)
        (try clear hi)
        (try clear ho0)
        refine hK.out _ _ ⟨(blk_cell BK298.out 0).trans rfl, (blk_cell BK298.out 1).trans rfl⟩ (fun hHeld => ?_)
        clear hK K
        refine norm_ (a' := ?_) ?_ ?_
        rotate_left
        ·show Act.put _ (some 32) _ = _
         simp only [Act.put, z0_, z1_, z2_, i64_w, i32_w]
         rfl
        refine one_ (i := 4) (N := some 34) #[true, true, true, true, true, true, false, false, false] rfl rfl (one_of HT_.out (by kernel_rfl)) (by decide) (fun K hK => ?_)
        refine goes_ Try.func33 (by kernel_rfl) rfl #[.slice A2 l2.length c2] (by rfl) rfl rfl (by (try simp only [List.map_toArray, List.map_cons, List.map_nil]); first | done | rfl | (simp only [List.length_drop, List.length_take]; rfl)) ?_
        with_reducible refine (laws_toMarkS.calls k _ _ l2 t305 _ ?side1 ?side2 A20.out).mono ?_
        (case side1 => exact Kd.C_below (Kd.C_below HR2.out HB.out) lt_)
        (case side2 => exact HC2.out)
        rintro e w66 ⟨v306, rfl, ho0, hb⟩
        refine ⟨_, rfl, ?_⟩
        have n0_ := Aside0.mk (Kd.S_elder' (Kd.S_below HO304.out lt_) (Kd.R_base ho0) hb)
        have n1_ := Aside0.mk (Kd.R_lower ho0 (below_size (at_ HB.out)))
        have n2_ := Aside0.mk (blk_at BK298.out hb)
        have n3_ := Aside0.mk (below_step (at_ HB.out) hb)
        clear HO304
        clear BK298
        clear HB
        have HO304 := n0_
        have HO307 := n1_
        have BK298 := n2_
        have HB := n3_
        clear n0_ n1_ n2_ n3_
        (try clear hb)
        (try clear hb2)
        (try clear hk)
        (try clear hi)
        (try clear ho0)
        refine hK.out _ _ ⟨(blk_cell BK298.out 0).trans rfl, (blk_cell BK298.out 1).trans rfl⟩ (fun hHeld => ?_)
        clear hK K
        refine norm_ (a' := ?_) ?_ ?_
        rotate_left
        ·show Act.put _ (some 34) _ = _
         simp only [Act.put, z0_, z1_, z2_, i64_w, i32_w]
         rfl
        refine one_ (i := 6) (N := some 36) #[true, true, true, true, true, true, true, false, false] rfl rfl (one_of HT_.out (by kernel_rfl)) (by decide) (fun K hK => ?_)
        refine goes_ Try.func34 (by kernel_rfl) rfl #[.agg #[.int .i64 a3_0, .slice A3_1 l3_1.length c3_1]] (by rfl) rfl rfl (by (try simp only [List.map_toArray, List.map_cons, List.map_nil]); first | done | rfl | (simp only [List.length_drop, List.length_take]; rfl)) ?_
        with_reducible refine (laws_toProof.calls k a3_0 _ _ l3_1 t308 t309 _ ?side1 ?side2 A21.out).mono ?_
        (case side1 => exact Kd.C_below (Kd.C_below HR3_1.out HB.out) lt_)
        (case side2 => exact HC3_1.out)
        rintro e w67 ⟨v310, rfl, ho0, hb⟩
        refine ⟨_, rfl, ?_⟩
        have n0_ := Aside0.mk (Kd.S_below (Kd.S_below HO304.out lt_) hb)
        have n1_ := Aside0.mk (Kd.R_below (Kd.R_below HO307.out lt_) hb)
        have n2_ := Aside0.mk (Kd.R_lower ho0 (below_size (at_ HB.out)))
        have n3_ := Aside0.mk (blk_at BK298.out hb)
        have n4_ := Aside0.mk (below_step (at_ HB.out) hb)
        clear HO304
        clear HO307
        clear BK298
        clear HB
        have HO304 := n0_
        have HO307 := n1_
        have HO311 := n2_
        have BK298 := n3_
        have HB := n4_
        clear n0_ n1_ n2_ n3_ n4_
        (try clear hb)
        (try clear hb2)
        (try clear hk)
        (try clear hi)
        (try clear ho0)
        obtain ⟨Ao68, co68, eo68⟩ := Kd.S_slice HO304.out
        (first | subst eo68 | (injection eo68 with f1_ f2_ f3_; have f4_ := f1_.symm; have f5_ := f3_.symm; clear f1_ f2_ f3_; subst f4_; subst f5_))
        obtain ⟨Ao69, co69, eo69⟩ := Kd.R_slice HO307.out
        (first | subst eo69 | (injection eo69 with f1_ f2_ f3_; have f4_ := f1_.symm; have f5_ := f3_.symm; clear f1_ f2_ f3_; subst f4_; subst f5_))
        obtain ⟨Ao70, co70, eo70⟩ := Kd.R_slice HO311.out
        (first | subst eo70 | (injection eo70 with f1_ f2_ f3_; have f4_ := f1_.symm; have f5_ := f3_.symm; clear f1_ f2_ f3_; subst f4_; subst f5_))
        refine hK.out _ _ ⟨(blk_cell BK298.out 0).trans rfl, (blk_cell BK298.out 1).trans rfl⟩ (fun hHeld => ?_)
        clear hK K
        refine norm_ (a' := ?_) ?_ ?_
        rotate_left
        ·show Act.put _ (some 36) _ = _
         simp only [Act.put, z0_, z1_, z2_, i64_w, i32_w]
         rfl
        refine one_ (i := 7) (N := some 37) #[true, true, true, true, true, true, true, true, false] rfl rfl (one_of HT_.out (by kernel_rfl)) (by decide) (fun K hK => ?_)
        refine goes_ Try.func32 (by kernel_rfl) rfl #[.int .i64 a0, .slice Ao68 t302.length co68, .slice Ao69 t305.length co69, .agg #[.int .i64 t308, .slice Ao70 t309.length co70]] (by rfl) rfl rfl (by (try simp only [List.map_toArray, List.map_cons, List.map_nil]); first | done | rfl | (simp only [List.length_drop, List.length_take]; rfl)) ?_
        with_reducible refine (spec_ProofOk.calls k a0 _ _ t302 _ _ t305 t308 _ _ t309 t312 _ ?side1 ?side2 ?side3 ?side4 ?side5 ?side6 A22.out).mono ?_
        (case side1 => exact Kd.C_below (Kd.S_reads' HO304.out).2.2 lt_)
        (case side2 => exact (Kd.S_reads' HO304.out).2.1)
        (case side3 => exact Kd.C_below (Kd.R_reads' HO307.out).2.2 lt_)
        (case side4 => exact (Kd.R_reads' HO307.out).2.1)
        (case side5 => exact Kd.C_below (Kd.R_reads' HO311.out).2.2 lt_)
        (case side6 => exact (Kd.R_reads' HO311.out).2.1)
        rintro e w71 ⟨rfl, hb⟩
        refine ⟨_, rfl, ?_⟩
        have n0_ := Aside0.mk (Kd.S_below (Kd.S_below HO304.out lt_) hb)
        have n1_ := Aside0.mk (Kd.R_below (Kd.R_below HO307.out lt_) hb)
        have n2_ := Aside0.mk (Kd.R_below (Kd.R_below HO311.out lt_) hb)
        have n3_ := Aside0.mk (blk_at BK298.out hb)
        have n4_ := Aside0.mk (below_step (at_ HB.out) hb)
        clear HO304
        clear HO307
        clear HO311
        clear BK298
        clear HB
        have HO304 := n0_
        have HO307 := n1_
        have HO311 := n2_
        have BK298 := n3_
        have HB := n4_
        clear n0_ n1_ n2_ n3_ n4_
        (try clear hb)
        (try clear hb2)
        (try clear hk)
        (try clear hi)
        refine hK.out _ _ ⟨(blk_cell BK298.out 0).trans rfl, (blk_cell BK298.out 1).trans rfl⟩ (fun hHeld => ?_)
        clear hK K
        refine norm_ (a' := ?_) ?_ ?_
        rotate_left
        ·show Act.put _ (some 37) _ = _
         simp only [Act.put, z0_, z1_, z2_, i64_w, i32_w]
         rfl
        refine pure_ (i := 8) (N := some 10) (v := ?_) (a' := ?_) #[true, true, true, true, true, true, true, true, true] rfl rfl (any_of HT_.out (by kernel_rfl)) (fun _ _ _ h => h) (Or.inl ⟨by rfl, ?_⟩) ?_ ?_
        rotate_left
        ·intro w'
         go_simp
         with_reducible rfl
        rotate_left
        ·simp only [Act.put, z0_, z1_, z2_, i64_w, i32_w]
         rfl
        refine done_ (done_of HT_.out (by kernel_rfl)) ?_
        try go_wp2_with (first | ((with_reducible refine gate_callee (f := 14) rfl ?_); refine goesL_ (some 39) rfl rfl Try.func14 (by kernel_rfl) rfl #[.slice A1 l1.length c1] rfl (by (try simp only [List.map_toArray, List.map_cons, List.map_nil]); first | done | rfl | (simp only [List.length_drop, List.length_take]; rfl)) ?_; (with_reducible refine (laws_toClaimS.calls k _ _ l1 t313 _ ?side1 ?side2 A23.out).mono ?_); (case side1 => exact Kd.C_below (Kd.C_below HR1.out HB.out) lt_); (case side2 => exact HC1.out); rintro e w72 ⟨v314, rfl, ho0, hb⟩; refine ⟨_, rfl, ?_⟩; have n0_ := Aside0.mk (Kd.S_elder' (Kd.S_below HO304.out lt_) (Kd.S_base ho0) hb); have n1_ := Aside0.mk (Kd.R_below (Kd.R_below HO307.out lt_) hb); have n2_ := Aside0.mk (Kd.R_below (Kd.R_below HO311.out lt_) hb); have n3_ := Aside0.mk (Kd.S_lower (Kd.S_new' (Kd.S_new' ho0 (Kd.S_lt (Kd.S_below HO304.out lt_))) (Kd.R_lt (Kd.R_below HO307.out lt_))) (below_size (at_ HB.out))); have n4_ := Aside0.mk (blk_at BK298.out hb); have n5_ := Aside0.mk (below_step (at_ HB.out) hb); clear HO304; clear HO307; clear HO311; clear BK298; clear HB; have HO304 := n0_; have HO307 := n1_; have HO311 := n2_; have HO315 := n3_; have BK298 := n4_; have HB := n5_; clear n0_ n1_ n2_ n3_ n4_ n5_; (try clear hb); (try clear hb2); (try clear hk); (try clear hi); (try clear ho0)) | ((with_reducible refine gate_callee (f := 33) rfl ?_); refine goesL_ (some 41) rfl rfl Try.func33 (by kernel_rfl) rfl #[.slice A2 l2.length c2] rfl (by (try simp only [List.map_toArray, List.map_cons, List.map_nil]); first | done | rfl | (simp only [List.length_drop, List.length_take]; rfl)) ?_; (with_reducible refine (laws_toMarkS.calls k _ _ l2 t316 _ ?side1 ?side2 A24.out).mono ?_); (case side1 => exact Kd.C_below (Kd.C_below HR2.out HB.out) lt_); (case side2 => exact HC2.out); rintro e w73 ⟨v317, rfl, ho0, hb⟩; refine ⟨_, rfl, ?_⟩; have n0_ := Aside0.mk (Kd.S_elder' (Kd.S_below HO304.out lt_) (Kd.R_base ho0) hb); have n1_ := Aside0.mk (Kd.R_elder' (Kd.R_below HO307.out lt_) (Kd.R_base ho0) hb); have n2_ := Aside0.mk (Kd.R_below (Kd.R_below HO311.out lt_) hb); have n3_ := Aside0.mk (Kd.S_elder' (Kd.S_below HO315.out lt_) (Kd.R_base ho0) hb); have n4_ := Aside0.mk (Kd.R_lower (Kd.R_new' ho0 (Kd.R_lt (Kd.R_below HO307.out lt_))) (below_size (at_ HB.out))); have n5_ := Aside0.mk (blk_at BK298.out hb); have n6_ := Aside0.mk (below_step (at_ HB.out) hb); clear HO304; clear HO307; clear HO311; clear HO315; clear BK298; clear HB; have HO304 := n0_; have HO307 := n1_; have HO311 := n2_; have HO315 := n3_; have HO318 := n4_; have BK298 := n5_; have HB := n6_; clear n0_ n1_ n2_ n3_ n4_ n5_ n6_; (try clear hb); (try clear hb2); (try clear hk); (try clear hi); (try clear ho0); have hcz74_0 := blk_cell BK298.out 0; have hcz74_1 := blk_cell BK298.out 1; have hfz74_0 := blk_frozen BK298.out 0; have hfz74_1 := blk_frozen BK298.out 1) | ((with_reducible refine gate_callee (f := 34) rfl ?_); refine goesL_ (some 43) rfl rfl Try.func34 (by kernel_rfl) rfl #[.agg #[.int .i64 a3_0, .slice A3_1 l3_1.length c3_1]] rfl (by (try simp only [List.map_toArray, List.map_cons, List.map_nil]); first | done | rfl | (simp only [List.length_drop, List.length_take]; rfl)) ?_; (with_reducible refine (laws_toProof.calls k a3_0 _ _ l3_1 t319 t320 _ ?side1 ?side2 A25.out).mono ?_); (case side1 => exact Kd.C_below (Kd.C_below HR3_1.out HB.out) lt_); (case side2 => exact HC3_1.out); rintro e w75 ⟨v321, rfl, ho0, hb⟩; refine ⟨_, rfl, ?_⟩; have n0_ := Aside0.mk (Kd.S_below (Kd.S_below HO304.out lt_) hb); have n1_ := Aside0.mk (Kd.R_below (Kd.R_below HO307.out lt_) hb); have n2_ := Aside0.mk (Kd.R_elder' (Kd.R_below HO311.out lt_) (Kd.R_base ho0) hb); have n3_ := Aside0.mk (Kd.S_below (Kd.S_below HO315.out lt_) hb); have n4_ := Aside0.mk (Kd.R_below (Kd.R_below HO318.out lt_) hb); have n5_ := Aside0.mk (Kd.R_lower (Kd.R_new' ho0 (Kd.R_lt (Kd.R_below HO311.out lt_))) (below_size (at_ HB.out))); have n6_ := Aside0.mk (blk_at BK298.out hb); have n7_ := Aside0.mk (below_step (at_ HB.out) hb); clear HO304; clear HO307; clear HO311; clear HO315; clear HO318; clear BK298; clear HB; have HO304 := n0_; have HO307 := n1_; have HO311 := n2_; have HO315 := n3_; have HO318 := n4_; have HO322 := n5_; have BK298 := n6_; have HB := n7_; clear n0_ n1_ n2_ n3_ n4_ n5_ n6_ n7_; (try clear hb); (try clear hb2); (try clear hk); (try clear hi); (try clear ho0)) | ((with_reducible refine gate_dst (N := 13) rfl ?_); refine box_event ?hg (N := 13) ?hd (cs := #[.int .i64 0, .slice none 0 0]) (t := 51) ?hr ?_; (case hd => rfl); (case hg => rfl); (case hr => first | (go_simp; done) | (go_simp; rfl)); intro gb323 hg w76 hbox hb; have n0_ := Aside0.mk (Kd.S_below (Kd.S_below HO304.out lt_) hb); have n1_ := Aside0.mk (Kd.R_below (Kd.R_below HO307.out lt_) hb); have n2_ := Aside0.mk (Kd.R_below (Kd.R_below HO311.out lt_) hb); have n3_ := Aside0.mk (Kd.S_below (Kd.S_below HO315.out lt_) hb); have n4_ := Aside0.mk (Kd.R_below (Kd.R_below HO318.out lt_) hb); have n5_ := Aside0.mk (Kd.R_below (Kd.R_below HO322.out lt_) hb); have n6_ := Aside0.mk (blk_at BK298.out hb); have n7_ := Aside0.mk (below_step (at_ HB.out) hb); have n8_ := Aside0.mk (hbox); have n9_ := Aside0.mk ((by rw [hg]; exact (below_size (at_ HB.out)) : w.heap.size ≤ gb323)); have n10_ := Aside0.mk ((by rw [hg]; exact (below_size (at_ HB.out)) : w.heap.size ≤ gb323)); have n11_ := Aside0.mk ((by rw [hg]; exact Nat.ne_of_lt (blk_lt (g := gb298) (o := .cells #[.int .i64 a3_0, .slice A3_1 l3_1.length c3_1] 57 (0, 0)) (by (with_reducible repeat (first | refine blk_drewN ?_ _ | refine blk_drew ?_ | refine blk_alloc ?_ _)); exact BK298.out)) : gb298 ≠ gb323)); have n12_ := Aside0.mk ((by rw [hg]; exact Nat.ne_of_gt (blk_lt (g := gb298) (o := .cells #[.int .i64 a3_0, .slice A3_1 l3_1.length c3_1] 57 (0, 0)) (by (with_reducible repeat (first | refine blk_drewN ?_ _ | refine blk_drew ?_ | refine blk_alloc ?_ _)); exact BK298.out)) : gb323 ≠ gb298)); clear HO304; clear HO307; clear HO311; clear HO315; clear HO318; clear HO322; clear BK298; clear HB; have HO304 := n0_; have HO307 := n1_; have HO311 := n2_; have HO315 := n3_; have HO318 := n4_; have HO322 := n5_; have BK298 := n6_; have HB := n7_; have BK323 := n8_; have GW323 := n9_; have GE323 := n10_; have NB298_323 := n11_; have NB323_298 := n12_; clear n0_ n1_ n2_ n3_ n4_ n5_ n6_ n7_ n8_ n9_ n10_ n11_ n12_; clear hb hbox hg; have hnb77 := NB323_298.out; have hnc77 := NB298_323.out; have hcz78_0 := blk_cell BK323.out 0; have hcz78_1 := blk_cell BK323.out 1; have hfz78_0 := blk_frozen BK323.out 0; have hfz78_1 := blk_frozen BK323.out 1; obtain ⟨Ao79, co79, eo79⟩ := Kd.R_slice HO322.out; subst eo79; obtain ⟨Ao80, co80, eo80⟩ := Kd.S_slice HO315.out; subst eo80; obtain ⟨Ao81, co81, eo81⟩ := Kd.R_slice HO318.out; subst eo81) | ((with_reducible refine gate_callee (f := 35) rfl ?_); refine goesL_ (some 48) rfl rfl Try.func35 (by kernel_rfl) rfl #[.int .i64 a0, .slice Ao80 t313.length co80, .slice Ao81 t316.length co81, .agg #[.int .i64 t319, .slice Ao79 t320.length co79]] rfl (by (try simp only [List.map_toArray, List.map_cons, List.map_nil]); first | done | rfl | (simp only [List.length_drop, List.length_take]; rfl)) ?_; (with_reducible refine (impl_ProofOk.calls a0 _ _ t313 _ _ t316 t319 _ _ t320 t324 _ ?side1 ?side2 ?side3 ?side4 ?side5 ?side6 A26.out).mono ?_); (case side1 => refine (Kd.S_reads' (e := 38) (base := w.heap.size) (ok := fun k_ => (((True ∧ some k_ ≠ (.slice Ao68 t302.length co68 : Value).ownBlock) ∧ some k_ ≠ (.slice Ao69 t305.length co69 : Value).ownBlock) ∧ some k_ ≠ (.slice Ao81 t316.length co81 : Value).ownBlock)) (n := t313.length) (c := co80) ?_).2.2; exact (by (with_reducible repeat (first | apply Kd.S_alloc | apply Kd.S_drewN | apply Kd.S_drew)); exact (Kd.S_mono (Kd.S_far (p := ⟨gb323, 1, none⟩) (Kd.S_far (p := ⟨gb323, 0, none⟩) (Kd.S_types HO315.out BK323.out (by decide)) (fun _ hk => hk.2) (.int .i64 t319)) (fun _ hk => hk.2) (.slice Ao79 t320.length co79)) (fun _ h_ => h_.1)))); (case side2 => exact (Kd.S_reads' HO315.out).2.1); (case side3 => refine (Kd.R_reads' (e := 47) (base := w.heap.size) (ok := fun k_ => (True ∧ some k_ ≠ (.slice Ao69 t305.length co69 : Value).ownBlock)) (n := t316.length) (c := co81) ?_).2.2; exact (by (with_reducible repeat (first | apply Kd.R_alloc | apply Kd.R_drewN | apply Kd.R_drew)); exact (Kd.R_mono (Kd.R_far (p := ⟨gb323, 1, none⟩) (Kd.R_far (p := ⟨gb323, 0, none⟩) (Kd.R_types HO318.out BK323.out (by decide)) (fun _ hk => hk.2) (.int .i64 t319)) (fun _ hk => hk.2) (.slice Ao79 t320.length co79)) (fun _ h_ => h_.1)))); (case side4 => exact (Kd.R_reads' HO318.out).2.1); (case side5 => refine (Kd.R_reads' (e := 93) (base := w.heap.size) (ok := fun k_ => (True ∧ some k_ ≠ (.slice Ao70 t309.length co70 : Value).ownBlock)) (n := t320.length) (c := co79) ?_).2.2; exact (by (with_reducible repeat (first | apply Kd.R_alloc | apply Kd.R_drewN | apply Kd.R_drew)); exact (Kd.R_mono (Kd.R_far (p := ⟨gb323, 1, none⟩) (Kd.R_far (p := ⟨gb323, 0, none⟩) (Kd.R_types HO322.out BK323.out (by decide)) (fun _ hk => hk.2) (.int .i64 t319)) (fun _ hk => hk.2) (.slice Ao79 t320.length co79)) (fun _ h_ => h_.1)))); (case side6 => exact (Kd.R_reads' HO322.out).2.1); rintro e w82 ⟨rfl, hb⟩; refine ⟨_, rfl, ?_⟩; have n0_ := Aside0.mk (Kd.S_below (by (with_reducible repeat (first | apply Kd.S_alloc | apply Kd.S_drewN | apply Kd.S_drew)); exact (Kd.S_mono (Kd.S_far (p := ⟨gb323, 1, none⟩) (Kd.S_far (p := ⟨gb323, 0, none⟩) (Kd.S_types HO304.out BK323.out (by decide)) (fun _ hk => hk.2) (.int .i64 t319)) (fun _ hk => hk.2) (.slice Ao79 t320.length co79)) (fun _ h_ => h_.1))) hb); have n1_ := Aside0.mk (Kd.R_below (by (with_reducible repeat (first | apply Kd.R_alloc | apply Kd.R_drewN | apply Kd.R_drew)); exact (Kd.R_mono (Kd.R_far (p := ⟨gb323, 1, none⟩) (Kd.R_far (p := ⟨gb323, 0, none⟩) (Kd.R_types HO307.out BK323.out (by decide)) (fun _ hk => hk.2) (.int .i64 t319)) (fun _ hk => hk.2) (.slice Ao79 t320.length co79)) (fun _ h_ => h_.1))) hb); have n2_ := Aside0.mk (Kd.R_below (by (with_reducible repeat (first | apply Kd.R_alloc | apply Kd.R_drewN | apply Kd.R_drew)); exact (Kd.R_mono (Kd.R_far (p := ⟨gb323, 1, none⟩) (Kd.R_far (p := ⟨gb323, 0, none⟩) (Kd.R_types HO311.out BK323.out (by decide)) (fun _ hk => hk.2) (.int .i64 t319)) (fun _ hk => hk.2) (.slice Ao79 t320.length co79)) (fun _ h_ => h_.1))) hb); have n3_ := Aside0.mk (Kd.S_below (by (with_reducible repeat (first | apply Kd.S_alloc | apply Kd.S_drewN | apply Kd.S_drew)); exact (Kd.S_mono (Kd.S_far (p := ⟨gb323, 1, none⟩) (Kd.S_far (p := ⟨gb323, 0, none⟩) (Kd.S_types HO315.out BK323.out (by decide)) (fun _ hk => hk.2) (.int .i64 t319)) (fun _ hk => hk.2) (.slice Ao79 t320.length co79)) (fun _ h_ => h_.1))) hb); have n4_ := Aside0.mk (Kd.R_below (by (with_reducible repeat (first | apply Kd.R_alloc | apply Kd.R_drewN | apply Kd.R_drew)); exact (Kd.R_mono (Kd.R_far (p := ⟨gb323, 1, none⟩) (Kd.R_far (p := ⟨gb323, 0, none⟩) (Kd.R_types HO318.out BK323.out (by decide)) (fun _ hk => hk.2) (.int .i64 t319)) (fun _ hk => hk.2) (.slice Ao79 t320.length co79)) (fun _ h_ => h_.1))) hb); have n5_ := Aside0.mk (Kd.R_below (by (with_reducible repeat (first | apply Kd.R_alloc | apply Kd.R_drewN | apply Kd.R_drew)); exact (Kd.R_mono (Kd.R_far (p := ⟨gb323, 1, none⟩) (Kd.R_far (p := ⟨gb323, 0, none⟩) (Kd.R_types HO322.out BK323.out (by decide)) (fun _ hk => hk.2) (.int .i64 t319)) (fun _ hk => hk.2) (.slice Ao79 t320.length co79)) (fun _ h_ => h_.1))) hb); have n6_ := Aside0.mk (blk_below (g := gb298) (o := .cells #[.int .i64 a3_0, .slice A3_1 l3_1.length c3_1] 57 (0, 0)) (by (with_reducible repeat (first | refine blk_drewN ?_ _ | refine blk_drew ?_ | refine blk_alloc ?_ _)); refine blk_far ?_ NB298_323.out _; (with_reducible repeat (first | refine blk_drewN ?_ _ | refine blk_drew ?_ | refine blk_alloc ?_ _)); refine blk_far ?_ NB298_323.out _; (with_reducible repeat (first | refine blk_drewN ?_ _ | refine blk_drew ?_ | refine blk_alloc ?_ _)); exact BK298.out) hb); have n7_ := Aside0.mk (blk_below (g := gb323) (o := .cells #[.int .i64 t319, .slice Ao79 t320.length co79] 51 (0, 0)) (by (with_reducible repeat (first | refine blk_drewN ?_ _ | refine blk_drew ?_ | refine blk_alloc ?_ _)); refine blk_put (cs := #[.int .i64 t319, .slice none 0 0]) ?_ 1 _ rfl; (with_reducible repeat (first | refine blk_drewN ?_ _ | refine blk_drew ?_ | refine blk_alloc ?_ _)); refine blk_put (cs := #[.int .i64 0, .slice none 0 0]) ?_ 0 _ rfl; (with_reducible repeat (first | refine blk_drewN ?_ _ | refine blk_drew ?_ | refine blk_alloc ?_ _)); exact BK323.out) hb); have n8_ := Aside0.mk (below_step (at_ HB.out) hb); clear HO304; clear HO307; clear HO311; clear HO315; clear HO318; clear HO322; clear BK298; clear BK323; clear HB; have HO304 := n0_; have HO307 := n1_; have HO311 := n2_; have HO315 := n3_; have HO318 := n4_; have HO322 := n5_; have BK298 := n6_; have BK323 := n7_; have HB := n8_; clear n0_ n1_ n2_ n3_ n4_ n5_ n6_ n7_ n8_; (try clear hb); (try clear hb2); (try clear hk); (try clear hi)) | ((with_reducible refine gate_callee (f := 14) rfl ?_); refine goesL_ (some 54) rfl rfl Try.func14 (by kernel_rfl) rfl #[.slice A1 l1.length c1] rfl (by (try simp only [List.map_toArray, List.map_cons, List.map_nil]); first | done | rfl | (simp only [List.length_drop, List.length_take]; rfl)) ?_; (with_reducible refine (laws_toClaimS.calls k _ _ l1 t325 _ ?side1 ?side2 A51.out).mono ?_); (case side1 => exact Kd.C_below (Kd.C_below HR1.out HB.out) lt_); (case side2 => exact HC1.out); rintro e w83 ⟨v326, rfl, ho0, hb⟩; refine ⟨_, rfl, ?_⟩; have n0_ := Aside0.mk (Kd.S_elder' (Kd.S_below HO304.out lt_) (Kd.S_base ho0) hb); have n1_ := Aside0.mk (Kd.R_below (Kd.R_below HO307.out lt_) hb); have n2_ := Aside0.mk (Kd.R_below (Kd.R_below HO311.out lt_) hb); have n3_ := Aside0.mk (Kd.S_elder' (Kd.S_below HO315.out lt_) (Kd.S_base ho0) hb); have n4_ := Aside0.mk (Kd.R_below (Kd.R_below HO318.out lt_) hb); have n5_ := Aside0.mk (Kd.R_below (Kd.R_below HO322.out lt_) hb); have n6_ := Aside0.mk (Kd.S_lower (Kd.S_new' (Kd.S_new' (Kd.S_new' (Kd.S_new' ho0 (Kd.S_lt (Kd.S_below HO304.out lt_))) (Kd.R_lt (Kd.R_below HO307.out lt_))) (Kd.S_lt (Kd.S_below HO315.out lt_))) (Kd.R_lt (Kd.R_below HO318.out lt_))) (below_size (at_ HB.out))); have n7_ := Aside0.mk (blk_at BK298.out hb); have n8_ := Aside0.mk (blk_at BK323.out hb); have n9_ := Aside0.mk (below_step (at_ HB.out) hb); clear HO304; clear HO307; clear HO311; clear HO315; clear HO318; clear HO322; clear BK298; clear BK323; clear HB; have HO304 := n0_; have HO307 := n1_; have HO311 := n2_; have HO315 := n3_; have HO318 := n4_; have HO322 := n5_; have HO327 := n6_; have BK298 := n7_; have BK323 := n8_; have HB := n9_; clear n0_ n1_ n2_ n3_ n4_ n5_ n6_ n7_ n8_ n9_; (try clear hb); (try clear hb2); (try clear hk); (try clear hi); (try clear ho0); obtain ⟨Ao84, co84, eo84⟩ := Kd.S_slice HO327.out; subst eo84) | ((with_reducible refine gate_callee (f := 16) rfl ?_); refine goesL_ (some 55) rfl rfl Try.func16 (by kernel_rfl) rfl #[.slice Ao80 t313.length co80, .slice Ao84 t325.length co84] rfl (by (try simp only [List.map_toArray, List.map_cons, List.map_nil]); first | done | rfl | (simp only [List.length_drop, List.length_take]; rfl)) ?_; (with_reducible refine (laws_eqClaimS.calls k _ _ t313 _ _ t325 true _ ?side1 ?side2 ?side3 ?side4 A52.out).mono ?_); (case side1 => exact Kd.C_below (Kd.S_reads' HO315.out).2.2 lt_); (case side2 => exact (Kd.S_reads' HO315.out).2.1); (case side3 => exact Kd.C_below (Kd.S_reads' HO327.out).2.2 lt_); (case side4 => exact (Kd.S_reads' HO327.out).2.1); rintro e w85 ⟨rfl, hb⟩; refine ⟨_, rfl, ?_⟩; have n0_ := Aside0.mk (Kd.S_below (Kd.S_below HO304.out lt_) hb); have n1_ := Aside0.mk (Kd.R_below (Kd.R_below HO307.out lt_) hb); have n2_ := Aside0.mk (Kd.R_below (Kd.R_below HO311.out lt_) hb); have n3_ := Aside0.mk (Kd.S_below (Kd.S_below HO315.out lt_) hb); have n4_ := Aside0.mk (Kd.R_below (Kd.R_below HO318.out lt_) hb); have n5_ := Aside0.mk (Kd.R_below (Kd.R_below HO322.out lt_) hb); have n6_ := Aside0.mk (Kd.S_below (Kd.S_below HO327.out lt_) hb); have n7_ := Aside0.mk (blk_at BK298.out hb); have n8_ := Aside0.mk (blk_at BK323.out hb); have n9_ := Aside0.mk (below_step (at_ HB.out) hb); clear HO304; clear HO307; clear HO311; clear HO315; clear HO318; clear HO322; clear HO327; clear BK298; clear BK323; clear HB; have HO304 := n0_; have HO307 := n1_; have HO311 := n2_; have HO315 := n3_; have HO318 := n4_; have HO322 := n5_; have HO327 := n6_; have BK298 := n7_; have BK323 := n8_; have HB := n9_; clear n0_ n1_ n2_ n3_ n4_ n5_ n6_ n7_ n8_ n9_; (try clear hb); (try clear hb2); (try clear hk); (try clear hi)) | ((with_reducible refine gate_callee (f := 33) rfl ?_); refine goesL_ (some 59) rfl rfl Try.func33 (by kernel_rfl) rfl #[.slice A2 l2.length c2] rfl (by (try simp only [List.map_toArray, List.map_cons, List.map_nil]); first | done | rfl | (simp only [List.length_drop, List.length_take]; rfl)) ?_; (with_reducible refine (laws_toMarkS.calls k _ _ l2 t329 _ ?side1 ?side2 A54.out).mono ?_); (case side1 => exact Kd.C_below (Kd.C_below HR2.out HB.out) lt_); (case side2 => exact HC2.out); rintro e w86 ⟨v330, rfl, ho0, hb⟩; refine ⟨_, rfl, ?_⟩; have n0_ := Aside0.mk (Kd.S_elder' (Kd.S_below HO304.out lt_) (Kd.R_base ho0) hb); have n1_ := Aside0.mk (Kd.R_elder' (Kd.R_below HO307.out lt_) (Kd.R_base ho0) hb); have n2_ := Aside0.mk (Kd.R_below (Kd.R_below HO311.out lt_) hb); have n3_ := Aside0.mk (Kd.S_elder' (Kd.S_below HO315.out lt_) (Kd.R_base ho0) hb); have n4_ := Aside0.mk (Kd.R_elder' (Kd.R_below HO318.out lt_) (Kd.R_base ho0) hb); have n5_ := Aside0.mk (Kd.R_below (Kd.R_below HO322.out lt_) hb); have n6_ := Aside0.mk (Kd.S_elder' (Kd.S_below HO327.out lt_) (Kd.R_base ho0) hb); have n7_ := Aside0.mk (Kd.R_lower (Kd.R_new' (Kd.R_new' ho0 (Kd.R_lt (Kd.R_below HO307.out lt_))) (Kd.R_lt (Kd.R_below HO318.out lt_))) (below_size (at_ HB.out))); have n8_ := Aside0.mk (blk_at BK298.out hb); have n9_ := Aside0.mk (blk_at BK323.out hb); have n10_ := Aside0.mk (below_step (at_ HB.out) hb); clear HO304; clear HO307; clear HO311; clear HO315; clear HO318; clear HO322; clear HO327; clear BK298; clear BK323; clear HB; have HO304 := n0_; have HO307 := n1_; have HO311 := n2_; have HO315 := n3_; have HO318 := n4_; have HO322 := n5_; have HO327 := n6_; have HO331 := n7_; have BK298 := n8_; have BK323 := n9_; have HB := n10_; clear n0_ n1_ n2_ n3_ n4_ n5_ n6_ n7_ n8_ n9_ n10_; (try clear hb); (try clear hb2); (try clear hk); (try clear hi); (try clear ho0); obtain ⟨Ao87, co87, eo87⟩ := Kd.R_slice HO331.out; subst eo87) | ((with_reducible refine gate_callee (f := 36) rfl ?_); refine goesL_ (some 60) rfl rfl Try.func36 (by kernel_rfl) rfl #[.slice Ao81 t316.length co81, .slice Ao87 t329.length co87] rfl (by (try simp only [List.map_toArray, List.map_cons, List.map_nil]); first | done | rfl | (simp only [List.length_drop, List.length_take]; rfl)) ?_; (with_reducible refine (laws_eqMarkS.calls k _ _ t316 _ _ t329 true _ ?side1 ?side2 ?side3 ?side4 A55.out).mono ?_); (case side1 => exact Kd.C_below (Kd.R_reads' HO318.out).2.2 lt_); (case side2 => exact (Kd.R_reads' HO318.out).2.1); (case side3 => exact Kd.C_below (Kd.R_reads' HO331.out).2.2 lt_); (case side4 => exact (Kd.R_reads' HO331.out).2.1); rintro e w88 ⟨rfl, hb⟩; refine ⟨_, rfl, ?_⟩; have n0_ := Aside0.mk (Kd.S_below (Kd.S_below HO304.out lt_) hb); have n1_ := Aside0.mk (Kd.R_below (Kd.R_below HO307.out lt_) hb); have n2_ := Aside0.mk (Kd.R_below (Kd.R_below HO311.out lt_) hb); have n3_ := Aside0.mk (Kd.S_below (Kd.S_below HO315.out lt_) hb); have n4_ := Aside0.mk (Kd.R_below (Kd.R_below HO318.out lt_) hb); have n5_ := Aside0.mk (Kd.R_below (Kd.R_below HO322.out lt_) hb); have n6_ := Aside0.mk (Kd.S_below (Kd.S_below HO327.out lt_) hb); have n7_ := Aside0.mk (Kd.R_below (Kd.R_below HO331.out lt_) hb); have n8_ := Aside0.mk (blk_at BK298.out hb); have n9_ := Aside0.mk (blk_at BK323.out hb); have n10_ := Aside0.mk (below_step (at_ HB.out) hb); clear HO304; clear HO307; clear HO311; clear HO315; clear HO318; clear HO322; clear HO327; clear HO331; clear BK298; clear BK323; clear HB; have HO304 := n0_; have HO307 := n1_; have HO311 := n2_; have HO315 := n3_; have HO318 := n4_; have HO322 := n5_; have HO327 := n6_; have HO331 := n7_; have BK298 := n8_; have BK323 := n9_; have HB := n10_; clear n0_ n1_ n2_ n3_ n4_ n5_ n6_ n7_ n8_ n9_ n10_; (try clear hb); (try clear hb2); (try clear hk); (try clear hi)))
        have n0_ := Aside0.mk (Kd.S_drew HO304.out)
        have n1_ := Aside0.mk (Kd.R_drew HO307.out)
        have n2_ := Aside0.mk (Kd.R_drew HO311.out)
        have n3_ := Aside0.mk (Kd.S_drew HO315.out)
        have n4_ := Aside0.mk (Kd.R_drew HO318.out)
        have n5_ := Aside0.mk (Kd.R_drew HO322.out)
        have n6_ := Aside0.mk (Kd.S_drew HO327.out)
        have n7_ := Aside0.mk (Kd.R_drew HO331.out)
        have n8_ := Aside0.mk (blk_drew BK298.out)
        have n9_ := Aside0.mk (blk_drew BK323.out)
        have n10_ := Aside0.mk (below_drew1 HB.out)
        clear HO304
        clear HO307
        clear HO311
        clear HO315
        clear HO318
        clear HO322
        clear HO327
        clear HO331
        clear BK298
        clear BK323
        clear HB
        have HO304 := n0_
        have HO307 := n1_
        have HO311 := n2_
        have HO315 := n3_
        have HO318 := n4_
        have HO322 := n5_
        have HO327 := n6_
        have HO331 := n7_
        have BK298 := n8_
        have BK323 := n9_
        have HB := n10_
        clear n0_ n1_ n2_ n3_ n4_ n5_ n6_ n7_ n8_ n9_ n10_
        refine start_ (n := 5) (S := fun w' => w'.cell? ⟨gb323, 0, none⟩ = some (.int .i64 t319) ∧ w'.cell? ⟨gb323, 1, none⟩ = some (.slice Ao79 t320.length co79) ∧ w'.cell? ⟨gb298, 0, none⟩ = some (.int .i64 a3_0) ∧ w'.cell? ⟨gb298, 1, none⟩ = some (.slice A3_1 l3_1.length c3_1)) (ds := []) #[false, false, false, false, false] (by kernel_rfl) rfl rfl ⟨(blk_cell BK323.out 0).trans rfl, (blk_cell BK323.out 1).trans rfl, (blk_cell BK298.out 0).trans rfl, (blk_cell BK298.out 1).trans rfl⟩ (fun hHeld => ?_)
        generalize w88.drew = w89 at HO304 HO307 HO311 HO315 HO318 HO322 HO327 HO331 BK298 BK323 HB hHeld ⊢
        refine take_ (i := 0) (N := some 62) (v := ?_) (a' := ?_) #[true, false, false, false, false] rfl rfl (by kernel_rfl) (fun _ _ _ h => h) (Or.inl ⟨by rfl, ?_⟩) hHeld ?_ ?_
        rotate_left
        ·rintro w' ⟨s0, s1, s2, s3⟩
         go_simp
         with_reducible rfl
        rotate_left
        ·simp only [Act.put, z0_, z1_, z2_, i64_w, i32_w]
         rfl
        refine take_ (i := 1) (N := some 63) (v := ?_) (a' := ?_) #[true, true, false, false, false] rfl rfl (by kernel_rfl) (fun _ _ _ h => h) (Or.inl ⟨by rfl, ?_⟩) hHeld ?_ ?_
        rotate_left
        ·rintro w' ⟨s0, s1, s2, s3⟩
         go_simp
         with_reducible rfl
        rotate_left
        ·simp only [Act.put, z0_, z1_, z2_, i64_w, i32_w]
         rfl
        refine one_ (i := 2) (N := some 64) #[true, true, true, false, false] rfl rfl (by kernel_rfl) (by decide) (fun K hK => ?_)
        refine goes_ Try.func34 (by kernel_rfl) rfl #[.agg #[.int .i64 a3_0, .slice A3_1 l3_1.length c3_1]] (by rfl) rfl rfl (by (try simp only [List.map_toArray, List.map_cons, List.map_nil]); first | done | rfl | (simp only [List.length_drop, List.length_take]; rfl)) ?_
        with_reducible refine (laws_toProof.calls k a3_0 _ _ l3_1 t333 t334 _ ?side1 ?side2 A57.out).mono ?_
        (case side1 => exact Kd.C_below (Kd.C_below HR3_1.out HB.out) lt_)
        (case side2 => exact HC3_1.out)
        rintro e w90 ⟨v335, rfl, ho0, hb⟩
        refine ⟨_, rfl, ?_⟩
        have n0_ := Aside0.mk (Kd.S_below (Kd.S_below HO304.out lt_) hb)
        have n1_ := Aside0.mk (Kd.R_below (Kd.R_below HO307.out lt_) hb)
        have n2_ := Aside0.mk (Kd.R_elder' (Kd.R_below HO311.out lt_) (Kd.R_base ho0) hb)
        have n3_ := Aside0.mk (Kd.S_below (Kd.S_below HO315.out lt_) hb)
        have n4_ := Aside0.mk (Kd.R_below (Kd.R_below HO318.out lt_) hb)
        have n5_ := Aside0.mk (Kd.R_elder' (Kd.R_below HO322.out lt_) (Kd.R_base ho0) hb)
        have n6_ := Aside0.mk (Kd.S_below (Kd.S_below HO327.out lt_) hb)
        have n7_ := Aside0.mk (Kd.R_below (Kd.R_below HO331.out lt_) hb)
        have n8_ := Aside0.mk (Kd.R_lower (Kd.R_new' (Kd.R_new' ho0 (Kd.R_lt (Kd.R_below HO311.out lt_))) (Kd.R_lt (Kd.R_below HO322.out lt_))) (below_size (at_ HB.out)))
        have n9_ := Aside0.mk (blk_at BK298.out hb)
        have n10_ := Aside0.mk (blk_at BK323.out hb)
        have n11_ := Aside0.mk (below_step (at_ HB.out) hb)
        clear HO304
        clear HO307
        clear HO311
        clear HO315
        clear HO318
        clear HO322
        clear HO327
        clear HO331
        clear BK298
        clear BK323
        clear HB
        have HO304 := n0_
        have HO307 := n1_
        have HO311 := n2_
        have HO315 := n3_
        have HO318 := n4_
        have HO322 := n5_
        have HO327 := n6_
        have HO331 := n7_
        have HO336 := n8_
        have BK298 := n9_
        have BK323 := n10_
        have HB := n11_
        clear n0_ n1_ n2_ n3_ n4_ n5_ n6_ n7_ n8_ n9_ n10_ n11_
        (try clear hb)
        (try clear hb2)
        (try clear hk)
        (try clear hi)
        (try clear ho0)
        obtain ⟨Ao91, co91, eo91⟩ := Kd.R_slice HO336.out
        (first | subst eo91 | (injection eo91 with f1_ f2_ f3_; have f4_ := f1_.symm; have f5_ := f3_.symm; clear f1_ f2_ f3_; subst f4_; subst f5_))
        refine hK.out _ _ ⟨(blk_cell BK323.out 0).trans rfl, (blk_cell BK323.out 1).trans rfl, (blk_cell BK298.out 0).trans rfl, (blk_cell BK298.out 1).trans rfl⟩ (fun hHeld => ?_)
        clear hK K
        refine norm_ (a' := ?_) ?_ ?_
        rotate_left
        ·show Act.put _ (some 64) _ = _
         simp only [Act.put, z0_, z1_, z2_, i64_w, i32_w]
         rfl
        refine one_ (i := 3) (N := some 65) #[true, true, true, true, false] rfl rfl (by kernel_rfl) (by decide) (fun K hK => ?_)
        refine goes_ Try.func37 (by kernel_rfl) rfl #[.agg #[.int .i64 t319, .slice Ao79 t320.length co79], .agg #[.int .i64 t333, .slice Ao91 t334.length co91]] (by rfl) rfl rfl (by (try simp only [List.map_toArray, List.map_cons, List.map_nil]); first | done | rfl | (simp only [List.length_drop, List.length_take]; rfl)) ?_
        with_reducible refine (laws_eqProof.calls k t319 _ _ t320 t333 _ _ t334 true _ ?side1 ?side2 ?side3 ?side4 A58.out).mono ?_
        (case side1 => exact Kd.C_below (Kd.R_reads' HO322.out).2.2 lt_)
        (case side2 => exact (Kd.R_reads' HO322.out).2.1)
        (case side3 => exact Kd.C_below (Kd.R_reads' HO336.out).2.2 lt_)
        (case side4 => exact (Kd.R_reads' HO336.out).2.1)
        rintro e w92 ⟨rfl, hb⟩
        refine ⟨_, rfl, ?_⟩
        have n0_ := Aside0.mk (Kd.S_below (Kd.S_below HO304.out lt_) hb)
        have n1_ := Aside0.mk (Kd.R_below (Kd.R_below HO307.out lt_) hb)
        have n2_ := Aside0.mk (Kd.R_below (Kd.R_below HO311.out lt_) hb)
        have n3_ := Aside0.mk (Kd.S_below (Kd.S_below HO315.out lt_) hb)
        have n4_ := Aside0.mk (Kd.R_below (Kd.R_below HO318.out lt_) hb)
        have n5_ := Aside0.mk (Kd.R_below (Kd.R_below HO322.out lt_) hb)
        have n6_ := Aside0.mk (Kd.S_below (Kd.S_below HO327.out lt_) hb)
        have n7_ := Aside0.mk (Kd.R_below (Kd.R_below HO331.out lt_) hb)
        have n8_ := Aside0.mk (Kd.R_below (Kd.R_below HO336.out lt_) hb)
        have n9_ := Aside0.mk (blk_at BK298.out hb)
        have n10_ := Aside0.mk (blk_at BK323.out hb)
        have n11_ := Aside0.mk (below_step (at_ HB.out) hb)
        clear HO304
        clear HO307
        clear HO311
        clear HO315
        clear HO318
        clear HO322
        clear HO327
        clear HO331
        clear HO336
        clear BK298
        clear BK323
        clear HB
        have HO304 := n0_
        have HO307 := n1_
        have HO311 := n2_
        have HO315 := n3_
        have HO318 := n4_
        have HO322 := n5_
        have HO327 := n6_
        have HO331 := n7_
        have HO336 := n8_
        have BK298 := n9_
        have BK323 := n10_
        have HB := n11_
        clear n0_ n1_ n2_ n3_ n4_ n5_ n6_ n7_ n8_ n9_ n10_ n11_
        (try clear hb)
        (try clear hb2)
        (try clear hk)
        (try clear hi)
        refine hK.out _ _ ⟨(blk_cell BK323.out 0).trans rfl, (blk_cell BK323.out 1).trans rfl, (blk_cell BK298.out 0).trans rfl, (blk_cell BK298.out 1).trans rfl⟩ (fun hHeld => ?_)
        clear hK K
        refine norm_ (a' := ?_) ?_ ?_
        rotate_left
        ·show Act.put _ (some 65) _ = _
         simp only [Act.put, z0_, z1_, z2_, i64_w, i32_w]
         rfl
        refine pure_ (i := 4) (N := some 66) (v := ?_) (a' := ?_) #[true, true, true, true, true] rfl rfl (by kernel_rfl) (fun _ _ _ h => h) (Or.inl ⟨by rfl, ?_⟩) ?_ ?_
        rotate_left
        ·intro w'
         go_simp
         with_reducible rfl
        rotate_left
        ·simp only [Act.put, z0_, z1_, z2_, i64_w, i32_w]
         rfl
        refine done_ (by kernel_rfl) ?_
        try go_wp2
        go_ret
        exact ⟨by first | rfl | (simp [errW_none, errW_some] <;> rfl) | (simp [*, errW_none, errW_some] <;> rfl), at_ HB.out⟩
       ·replace c59 := Bool.eq_false_iff.mpr c59
        subst c59
        rw [if_neg (show ¬ (false = true) by decide)] at H
        obtain rfl := Option.some.inj H
        go_enter Try.func8, Try.ntmps8
        try go_wp2_with (first | ((with_reducible refine gate_dst (N := 7) rfl ?_); refine box_event ?hg (N := 7) ?hd (cs := #[.int .i64 a3_0, .slice A3_1 l3_1.length c3_1]) (t := 57) ?hr ?_; (case hd => rfl); (case hg => rfl); (case hr => first | (go_simp; done) | (go_simp; rfl)); intro gb298 hg w93 hbox hb; have n0_ := Aside0.mk (below_step (below_at HB.out) hb); have n1_ := Aside0.mk (hbox); have n2_ := Aside0.mk ((by rw [hg]; exact (below_size (below_at HB.out)) : w.heap.size ≤ gb298)); have n3_ := Aside0.mk ((by rw [hg]; exact (below_size (below_at HB.out)) : w.heap.size ≤ gb298)); clear HB; have HB := n0_; have BK298 := n1_; have GW298 := n2_; have GE298 := n3_; clear n0_ n1_ n2_ n3_; clear hb hbox hg) | ((with_reducible refine gate_callee (f := 12) rfl ?_); refine goesL_ (some 17) rfl rfl Try.func12 (by kernel_rfl) rfl #[.slice A1 l1.length c1, .int .i64 1048576] rfl (by (try simp only [List.map_toArray, List.map_cons, List.map_nil]); first | done | rfl | (simp only [List.length_drop, List.length_take]; rfl)) ?_; (with_reducible refine (laws_szClaimS.calls k _ _ l1 1048576 t299 _ ?side1 ?side2 A5.out).mono ?_); (case side1 => exact Kd.C_below (Kd.C_below HR1.out HB.out) lt_); (case side2 => exact HC1.out); rintro e w94 ⟨rfl, hb⟩; refine ⟨_, rfl, ?_⟩; have n0_ := Aside0.mk (blk_at BK298.out hb); have n1_ := Aside0.mk (below_step (at_ HB.out) hb); clear BK298; clear HB; have BK298 := n0_; have HB := n1_; clear n0_ n1_; (try clear hb); (try clear hb2); (try clear hk); (try clear hi)) | ((with_reducible refine gate_callee (f := 30) rfl ?_); refine goesL_ (some 22) rfl rfl Try.func30 (by kernel_rfl) rfl #[.slice A2 l2.length c2, .int .i64 t299] rfl (by (try simp only [List.map_toArray, List.map_cons, List.map_nil]); first | done | rfl | (simp only [List.length_drop, List.length_take]; rfl)) ?_; (with_reducible refine (laws_szMarkS.calls _ _ l2 t299 t300 _ ?side1 ?side2 A9.out).mono ?_); (case side1 => exact Kd.C_below (Kd.C_below HR2.out HB.out) lt_); (case side2 => exact HC2.out); rintro e w' ⟨rfl, ⟨nd, rfl⟩⟩; refine ⟨_, rfl, ?_⟩; (try (rw [drewN_self w94]; generalize hq_ : World.drewN w94 _ = w94; have n0_ : Aside0 (w94.heap[gb298]? = some (.cells #[.int .i64 a3_0, .slice A3_1 l3_1.length c3_1] 57 (0, 0))) := ⟨by rw [← hq_]; exact (by (with_reducible repeat (first | refine blk_drewN ?_ _ | refine blk_drew ?_ | refine blk_alloc ?_ _)); exact BK298.out)⟩; have n1_ : Aside0 (Below w.heap.size w w94) := ⟨by rw [← hq_]; exact (at_ HB.out)⟩; clear BK298 HB hq_; have BK298 := n0_; have HB := n1_; clear n0_ n1_)); have hcz95_0 := blk_cell BK298.out 0; have hcz95_1 := blk_cell BK298.out 1; have hfz95_0 := blk_frozen BK298.out 0; have hfz95_1 := blk_frozen BK298.out 1) | ((with_reducible refine gate_callee (f := 31) rfl ?_); refine goesL_ (some 27) rfl rfl Try.func31 (by kernel_rfl) rfl #[.agg #[.int .i64 a3_0, .slice A3_1 l3_1.length c3_1], .int .i64 t300] rfl (by (try simp only [List.map_toArray, List.map_cons, List.map_nil]); first | done | rfl | (simp only [List.length_drop, List.length_take]; rfl)) ?_; (with_reducible refine (laws_szProof.calls a3_0 _ _ l3_1 t300 t301 _ ?side1 ?side2 A13.out).mono ?_); (case side1 => exact Kd.C_below (Kd.C_below HR3_1.out HB.out) lt_); (case side2 => exact HC3_1.out); rintro e w96 ⟨rfl, hb⟩; refine ⟨_, rfl, ?_⟩; have n0_ := Aside0.mk (blk_at BK298.out hb); have n1_ := Aside0.mk (below_step (at_ HB.out) hb); clear BK298; clear HB; have BK298 := n0_; have HB := n1_; clear n0_ n1_; (try clear hb); (try clear hb2); (try clear hk); (try clear hi)))
        have n0_ := Aside0.mk (blk_drew BK298.out)
        have n1_ := Aside0.mk (below_drew1 HB.out)
        clear BK298
        clear HB
        have BK298 := n0_
        have HB := n1_
        clear n0_ n1_
        refine start_ (n := 9) (S := fun w' => w'.cell? ⟨gb298, 0, none⟩ = some (.int .i64 a3_0) ∧ w'.cell? ⟨gb298, 1, none⟩ = some (.slice A3_1 l3_1.length c3_1)) (ds := []) #[false, false, false, false, false, false, false, false, false] (by kernel_rfl) rfl rfl ⟨(blk_cell BK298.out 0).trans rfl, (blk_cell BK298.out 1).trans rfl⟩ (fun hHeld => ?_); refine with_tabW laws_FnExactProofOk.tab11 laws_FnExactProofOk.bits11 (fun HT_ HW_ => ?_)
        generalize w96.drew = w97 at BK298 HB hHeld ⊢
        refine pure_ (i := 0) (N := some 30) (v := ?_) (a' := ?_) #[true, false, false, false, false, false, false, false, false] rfl rfl (any_of HT_.out (by kernel_rfl)) (fun _ _ _ h => h) (Or.inl ⟨by rfl, ?_⟩) ?_ ?_
        rotate_left
        ·intro w'
         go_simp
         with_reducible rfl
        rotate_left
        ·simp only [Act.put, z0_, z1_, z2_, i64_w, i32_w]
         rfl
        refine pure_ (i := 1) (N := some 31) (v := ?_) (a' := ?_) #[true, true, false, false, false, false, false, false, false] rfl rfl (any_of HT_.out (by kernel_rfl)) (fun _ _ _ h => h) (Or.inl ⟨by rfl, ?_⟩) ?_ ?_
        rotate_left
        ·intro w'
         go_simp
         with_reducible rfl
        rotate_left
        ·simp only [Act.put, z0_, z1_, z2_, i64_w, i32_w]
         rfl
        refine pure_ (i := 3) (N := some 33) (v := ?_) (a' := ?_) #[true, true, false, true, false, false, false, false, false] rfl rfl (any_of HT_.out (by kernel_rfl)) (fun _ _ _ h => h) (Or.inl ⟨by rfl, ?_⟩) ?_ ?_
        rotate_left
        ·intro w'
         go_simp
         with_reducible rfl
        rotate_left
        ·simp only [Act.put, z0_, z1_, z2_, i64_w, i32_w]
         rfl
        refine take_ (i := 5) (N := some 35) (v := ?_) (a' := ?_) #[true, true, false, true, false, true, false, false, false] rfl rfl (take_ofW HT_.out HW_.out (by kernel_rfl)) (fun _ _ _ h => h) (Or.inl ⟨by rfl, ?_⟩) hHeld ?_ ?_
        rotate_left
        ·rintro w' ⟨s0, s1⟩
         go_simp
         with_reducible rfl
        rotate_left
        ·simp only [Act.put, z0_, z1_, z2_, i64_w, i32_w]
         rfl
        refine one_ (i := 2) (N := some 32) #[true, true, true, true, false, true, false, false, false] rfl rfl (one_of HT_.out (by kernel_rfl)) (by decide) (fun K hK => ?_)
        refine goes_ Try.func14 (by kernel_rfl) rfl #[.slice A1 l1.length c1] (by rfl) rfl rfl (by (try simp only [List.map_toArray, List.map_cons, List.map_nil]); first | done | rfl | (simp only [List.length_drop, List.length_take]; rfl)) ?_
        with_reducible refine (laws_toClaimS.calls k _ _ l1 t302 _ ?side1 ?side2 A19.out).mono ?_
        (case side1 => exact Kd.C_below (Kd.C_below HR1.out HB.out) lt_)
        (case side2 => exact HC1.out)
        rintro e w98 ⟨v303, rfl, ho0, hb⟩
        refine ⟨_, rfl, ?_⟩
        have n0_ := Aside0.mk (Kd.S_lower ho0 (below_size (at_ HB.out)))
        have n1_ := Aside0.mk (blk_at BK298.out hb)
        have n2_ := Aside0.mk (below_step (at_ HB.out) hb)
        clear BK298
        clear HB
        have HO304 := n0_
        have BK298 := n1_
        have HB := n2_
        clear n0_ n1_ n2_
        (try clear hb)
        (try clear hb2)
        (try clear hk)
        (try clear hi)
        (try clear ho0)
        refine hK.out _ _ ⟨(blk_cell BK298.out 0).trans rfl, (blk_cell BK298.out 1).trans rfl⟩ (fun hHeld => ?_)
        clear hK K
        refine norm_ (a' := ?_) ?_ ?_
        rotate_left
        ·show Act.put _ (some 32) _ = _
         simp only [Act.put, z0_, z1_, z2_, i64_w, i32_w]
         rfl
        refine one_ (i := 4) (N := some 34) #[true, true, true, true, true, true, false, false, false] rfl rfl (one_of HT_.out (by kernel_rfl)) (by decide) (fun K hK => ?_)
        refine goes_ Try.func33 (by kernel_rfl) rfl #[.slice A2 l2.length c2] (by rfl) rfl rfl (by (try simp only [List.map_toArray, List.map_cons, List.map_nil]); first | done | rfl | (simp only [List.length_drop, List.length_take]; rfl)) ?_
        with_reducible refine (laws_toMarkS.calls k _ _ l2 t305 _ ?side1 ?side2 A20.out).mono ?_
        (case side1 => exact Kd.C_below (Kd.C_below HR2.out HB.out) lt_)
        (case side2 => exact HC2.out)
        rintro e w99 ⟨v306, rfl, ho0, hb⟩
        refine ⟨_, rfl, ?_⟩
        have n0_ := Aside0.mk (Kd.S_elder' (Kd.S_below HO304.out lt_) (Kd.R_base ho0) hb)
        have n1_ := Aside0.mk (Kd.R_lower ho0 (below_size (at_ HB.out)))
        have n2_ := Aside0.mk (blk_at BK298.out hb)
        have n3_ := Aside0.mk (below_step (at_ HB.out) hb)
        clear HO304
        clear BK298
        clear HB
        have HO304 := n0_
        have HO307 := n1_
        have BK298 := n2_
        have HB := n3_
        clear n0_ n1_ n2_ n3_
        (try clear hb)
        (try clear hb2)
        (try clear hk)
        (try clear hi)
        (try clear ho0)
        refine hK.out _ _ ⟨(blk_cell BK298.out 0).trans rfl, (blk_cell BK298.out 1).trans rfl⟩ (fun hHeld => ?_)
        clear hK K
        refine norm_ (a' := ?_) ?_ ?_
        rotate_left
        ·show Act.put _ (some 34) _ = _
         simp only [Act.put, z0_, z1_, z2_, i64_w, i32_w]
         rfl
        refine one_ (i := 6) (N := some 36) #[true, true, true, true, true, true, true, false, false] rfl rfl (one_of HT_.out (by kernel_rfl)) (by decide) (fun K hK => ?_)
        refine goes_ Try.func34 (by kernel_rfl) rfl #[.agg #[.int .i64 a3_0, .slice A3_1 l3_1.length c3_1]] (by rfl) rfl rfl (by (try simp only [List.map_toArray, List.map_cons, List.map_nil]); first | done | rfl | (simp only [List.length_drop, List.length_take]; rfl)) ?_
        with_reducible refine (laws_toProof.calls k a3_0 _ _ l3_1 t308 t309 _ ?side1 ?side2 A21.out).mono ?_
        (case side1 => exact Kd.C_below (Kd.C_below HR3_1.out HB.out) lt_)
        (case side2 => exact HC3_1.out)
        rintro e w100 ⟨v310, rfl, ho0, hb⟩
        refine ⟨_, rfl, ?_⟩
        have n0_ := Aside0.mk (Kd.S_below (Kd.S_below HO304.out lt_) hb)
        have n1_ := Aside0.mk (Kd.R_below (Kd.R_below HO307.out lt_) hb)
        have n2_ := Aside0.mk (Kd.R_lower ho0 (below_size (at_ HB.out)))
        have n3_ := Aside0.mk (blk_at BK298.out hb)
        have n4_ := Aside0.mk (below_step (at_ HB.out) hb)
        clear HO304
        clear HO307
        clear BK298
        clear HB
        have HO304 := n0_
        have HO307 := n1_
        have HO311 := n2_
        have BK298 := n3_
        have HB := n4_
        clear n0_ n1_ n2_ n3_ n4_
        (try clear hb)
        (try clear hb2)
        (try clear hk)
        (try clear hi)
        (try clear ho0)
        obtain ⟨Ao101, co101, eo101⟩ := Kd.S_slice HO304.out
        (first | subst eo101 | (injection eo101 with f1_ f2_ f3_; have f4_ := f1_.symm; have f5_ := f3_.symm; clear f1_ f2_ f3_; subst f4_; subst f5_))
        obtain ⟨Ao102, co102, eo102⟩ := Kd.R_slice HO307.out
        (first | subst eo102 | (injection eo102 with f1_ f2_ f3_; have f4_ := f1_.symm; have f5_ := f3_.symm; clear f1_ f2_ f3_; subst f4_; subst f5_))
        obtain ⟨Ao103, co103, eo103⟩ := Kd.R_slice HO311.out
        (first | subst eo103 | (injection eo103 with f1_ f2_ f3_; have f4_ := f1_.symm; have f5_ := f3_.symm; clear f1_ f2_ f3_; subst f4_; subst f5_))
        refine hK.out _ _ ⟨(blk_cell BK298.out 0).trans rfl, (blk_cell BK298.out 1).trans rfl⟩ (fun hHeld => ?_)
        clear hK K
        refine norm_ (a' := ?_) ?_ ?_
        rotate_left
        ·show Act.put _ (some 36) _ = _
         simp only [Act.put, z0_, z1_, z2_, i64_w, i32_w]
         rfl
        refine one_ (i := 7) (N := some 37) #[true, true, true, true, true, true, true, true, false] rfl rfl (one_of HT_.out (by kernel_rfl)) (by decide) (fun K hK => ?_)
        refine goes_ Try.func32 (by kernel_rfl) rfl #[.int .i64 a0, .slice Ao101 t302.length co101, .slice Ao102 t305.length co102, .agg #[.int .i64 t308, .slice Ao103 t309.length co103]] (by rfl) rfl rfl (by (try simp only [List.map_toArray, List.map_cons, List.map_nil]); first | done | rfl | (simp only [List.length_drop, List.length_take]; rfl)) ?_
        with_reducible refine (spec_ProofOk.calls k a0 _ _ t302 _ _ t305 t308 _ _ t309 t312 _ ?side1 ?side2 ?side3 ?side4 ?side5 ?side6 A22.out).mono ?_
        (case side1 => exact Kd.C_below (Kd.S_reads' HO304.out).2.2 lt_)
        (case side2 => exact (Kd.S_reads' HO304.out).2.1)
        (case side3 => exact Kd.C_below (Kd.R_reads' HO307.out).2.2 lt_)
        (case side4 => exact (Kd.R_reads' HO307.out).2.1)
        (case side5 => exact Kd.C_below (Kd.R_reads' HO311.out).2.2 lt_)
        (case side6 => exact (Kd.R_reads' HO311.out).2.1)
        rintro e w104 ⟨rfl, hb⟩
        refine ⟨_, rfl, ?_⟩
        have n0_ := Aside0.mk (Kd.S_below (Kd.S_below HO304.out lt_) hb)
        have n1_ := Aside0.mk (Kd.R_below (Kd.R_below HO307.out lt_) hb)
        have n2_ := Aside0.mk (Kd.R_below (Kd.R_below HO311.out lt_) hb)
        have n3_ := Aside0.mk (blk_at BK298.out hb)
        have n4_ := Aside0.mk (below_step (at_ HB.out) hb)
        clear HO304
        clear HO307
        clear HO311
        clear BK298
        clear HB
        have HO304 := n0_
        have HO307 := n1_
        have HO311 := n2_
        have BK298 := n3_
        have HB := n4_
        clear n0_ n1_ n2_ n3_ n4_
        (try clear hb)
        (try clear hb2)
        (try clear hk)
        (try clear hi)
        refine hK.out _ _ ⟨(blk_cell BK298.out 0).trans rfl, (blk_cell BK298.out 1).trans rfl⟩ (fun hHeld => ?_)
        clear hK K
        refine norm_ (a' := ?_) ?_ ?_
        rotate_left
        ·show Act.put _ (some 37) _ = _
         simp only [Act.put, z0_, z1_, z2_, i64_w, i32_w]
         rfl
        refine pure_ (i := 8) (N := some 10) (v := ?_) (a' := ?_) #[true, true, true, true, true, true, true, true, true] rfl rfl (any_of HT_.out (by kernel_rfl)) (fun _ _ _ h => h) (Or.inl ⟨by rfl, ?_⟩) ?_ ?_
        rotate_left
        ·intro w'
         go_simp
         with_reducible rfl
        rotate_left
        ·simp only [Act.put, z0_, z1_, z2_, i64_w, i32_w]
         rfl
        refine done_ (done_of HT_.out (by kernel_rfl)) ?_
        try go_wp2_with (first | ((with_reducible refine gate_callee (f := 14) rfl ?_); refine goesL_ (some 39) rfl rfl Try.func14 (by kernel_rfl) rfl #[.slice A1 l1.length c1] rfl (by (try simp only [List.map_toArray, List.map_cons, List.map_nil]); first | done | rfl | (simp only [List.length_drop, List.length_take]; rfl)) ?_; (with_reducible refine (laws_toClaimS.calls k _ _ l1 t313 _ ?side1 ?side2 A23.out).mono ?_); (case side1 => exact Kd.C_below (Kd.C_below HR1.out HB.out) lt_); (case side2 => exact HC1.out); rintro e w105 ⟨v314, rfl, ho0, hb⟩; refine ⟨_, rfl, ?_⟩; have n0_ := Aside0.mk (Kd.S_elder' (Kd.S_below HO304.out lt_) (Kd.S_base ho0) hb); have n1_ := Aside0.mk (Kd.R_below (Kd.R_below HO307.out lt_) hb); have n2_ := Aside0.mk (Kd.R_below (Kd.R_below HO311.out lt_) hb); have n3_ := Aside0.mk (Kd.S_lower (Kd.S_new' (Kd.S_new' ho0 (Kd.S_lt (Kd.S_below HO304.out lt_))) (Kd.R_lt (Kd.R_below HO307.out lt_))) (below_size (at_ HB.out))); have n4_ := Aside0.mk (blk_at BK298.out hb); have n5_ := Aside0.mk (below_step (at_ HB.out) hb); clear HO304; clear HO307; clear HO311; clear BK298; clear HB; have HO304 := n0_; have HO307 := n1_; have HO311 := n2_; have HO315 := n3_; have BK298 := n4_; have HB := n5_; clear n0_ n1_ n2_ n3_ n4_ n5_; (try clear hb); (try clear hb2); (try clear hk); (try clear hi); (try clear ho0)) | ((with_reducible refine gate_callee (f := 33) rfl ?_); refine goesL_ (some 41) rfl rfl Try.func33 (by kernel_rfl) rfl #[.slice A2 l2.length c2] rfl (by (try simp only [List.map_toArray, List.map_cons, List.map_nil]); first | done | rfl | (simp only [List.length_drop, List.length_take]; rfl)) ?_; (with_reducible refine (laws_toMarkS.calls k _ _ l2 t316 _ ?side1 ?side2 A24.out).mono ?_); (case side1 => exact Kd.C_below (Kd.C_below HR2.out HB.out) lt_); (case side2 => exact HC2.out); rintro e w106 ⟨v317, rfl, ho0, hb⟩; refine ⟨_, rfl, ?_⟩; have n0_ := Aside0.mk (Kd.S_elder' (Kd.S_below HO304.out lt_) (Kd.R_base ho0) hb); have n1_ := Aside0.mk (Kd.R_elder' (Kd.R_below HO307.out lt_) (Kd.R_base ho0) hb); have n2_ := Aside0.mk (Kd.R_below (Kd.R_below HO311.out lt_) hb); have n3_ := Aside0.mk (Kd.S_elder' (Kd.S_below HO315.out lt_) (Kd.R_base ho0) hb); have n4_ := Aside0.mk (Kd.R_lower (Kd.R_new' ho0 (Kd.R_lt (Kd.R_below HO307.out lt_))) (below_size (at_ HB.out))); have n5_ := Aside0.mk (blk_at BK298.out hb); have n6_ := Aside0.mk (below_step (at_ HB.out) hb); clear HO304; clear HO307; clear HO311; clear HO315; clear BK298; clear HB; have HO304 := n0_; have HO307 := n1_; have HO311 := n2_; have HO315 := n3_; have HO318 := n4_; have BK298 := n5_; have HB := n6_; clear n0_ n1_ n2_ n3_ n4_ n5_ n6_; (try clear hb); (try clear hb2); (try clear hk); (try clear hi); (try clear ho0); have hcz107_0 := blk_cell BK298.out 0; have hcz107_1 := blk_cell BK298.out 1; have hfz107_0 := blk_frozen BK298.out 0; have hfz107_1 := blk_frozen BK298.out 1) | ((with_reducible refine gate_callee (f := 34) rfl ?_); refine goesL_ (some 43) rfl rfl Try.func34 (by kernel_rfl) rfl #[.agg #[.int .i64 a3_0, .slice A3_1 l3_1.length c3_1]] rfl (by (try simp only [List.map_toArray, List.map_cons, List.map_nil]); first | done | rfl | (simp only [List.length_drop, List.length_take]; rfl)) ?_; (with_reducible refine (laws_toProof.calls k a3_0 _ _ l3_1 t319 t320 _ ?side1 ?side2 A25.out).mono ?_); (case side1 => exact Kd.C_below (Kd.C_below HR3_1.out HB.out) lt_); (case side2 => exact HC3_1.out); rintro e w108 ⟨v321, rfl, ho0, hb⟩; refine ⟨_, rfl, ?_⟩; have n0_ := Aside0.mk (Kd.S_below (Kd.S_below HO304.out lt_) hb); have n1_ := Aside0.mk (Kd.R_below (Kd.R_below HO307.out lt_) hb); have n2_ := Aside0.mk (Kd.R_elder' (Kd.R_below HO311.out lt_) (Kd.R_base ho0) hb); have n3_ := Aside0.mk (Kd.S_below (Kd.S_below HO315.out lt_) hb); have n4_ := Aside0.mk (Kd.R_below (Kd.R_below HO318.out lt_) hb); have n5_ := Aside0.mk (Kd.R_lower (Kd.R_new' ho0 (Kd.R_lt (Kd.R_below HO311.out lt_))) (below_size (at_ HB.out))); have n6_ := Aside0.mk (blk_at BK298.out hb); have n7_ := Aside0.mk (below_step (at_ HB.out) hb); clear HO304; clear HO307; clear HO311; clear HO315; clear HO318; clear BK298; clear HB; have HO304 := n0_; have HO307 := n1_; have HO311 := n2_; have HO315 := n3_; have HO318 := n4_; have HO322 := n5_; have BK298 := n6_; have HB := n7_; clear n0_ n1_ n2_ n3_ n4_ n5_ n6_ n7_; (try clear hb); (try clear hb2); (try clear hk); (try clear hi); (try clear ho0)) | ((with_reducible refine gate_dst (N := 13) rfl ?_); refine box_event ?hg (N := 13) ?hd (cs := #[.int .i64 0, .slice none 0 0]) (t := 51) ?hr ?_; (case hd => rfl); (case hg => rfl); (case hr => first | (go_simp; done) | (go_simp; rfl)); intro gb323 hg w109 hbox hb; have n0_ := Aside0.mk (Kd.S_below (Kd.S_below HO304.out lt_) hb); have n1_ := Aside0.mk (Kd.R_below (Kd.R_below HO307.out lt_) hb); have n2_ := Aside0.mk (Kd.R_below (Kd.R_below HO311.out lt_) hb); have n3_ := Aside0.mk (Kd.S_below (Kd.S_below HO315.out lt_) hb); have n4_ := Aside0.mk (Kd.R_below (Kd.R_below HO318.out lt_) hb); have n5_ := Aside0.mk (Kd.R_below (Kd.R_below HO322.out lt_) hb); have n6_ := Aside0.mk (blk_at BK298.out hb); have n7_ := Aside0.mk (below_step (at_ HB.out) hb); have n8_ := Aside0.mk (hbox); have n9_ := Aside0.mk ((by rw [hg]; exact (below_size (at_ HB.out)) : w.heap.size ≤ gb323)); have n10_ := Aside0.mk ((by rw [hg]; exact (below_size (at_ HB.out)) : w.heap.size ≤ gb323)); have n11_ := Aside0.mk ((by rw [hg]; exact Nat.ne_of_lt (blk_lt (g := gb298) (o := .cells #[.int .i64 a3_0, .slice A3_1 l3_1.length c3_1] 57 (0, 0)) (by (with_reducible repeat (first | refine blk_drewN ?_ _ | refine blk_drew ?_ | refine blk_alloc ?_ _)); exact BK298.out)) : gb298 ≠ gb323)); have n12_ := Aside0.mk ((by rw [hg]; exact Nat.ne_of_gt (blk_lt (g := gb298) (o := .cells #[.int .i64 a3_0, .slice A3_1 l3_1.length c3_1] 57 (0, 0)) (by (with_reducible repeat (first | refine blk_drewN ?_ _ | refine blk_drew ?_ | refine blk_alloc ?_ _)); exact BK298.out)) : gb323 ≠ gb298)); clear HO304; clear HO307; clear HO311; clear HO315; clear HO318; clear HO322; clear BK298; clear HB; have HO304 := n0_; have HO307 := n1_; have HO311 := n2_; have HO315 := n3_; have HO318 := n4_; have HO322 := n5_; have BK298 := n6_; have HB := n7_; have BK323 := n8_; have GW323 := n9_; have GE323 := n10_; have NB298_323 := n11_; have NB323_298 := n12_; clear n0_ n1_ n2_ n3_ n4_ n5_ n6_ n7_ n8_ n9_ n10_ n11_ n12_; clear hb hbox hg; have hnb110 := NB323_298.out; have hnc110 := NB298_323.out; have hcz111_0 := blk_cell BK323.out 0; have hcz111_1 := blk_cell BK323.out 1; have hfz111_0 := blk_frozen BK323.out 0; have hfz111_1 := blk_frozen BK323.out 1; obtain ⟨Ao112, co112, eo112⟩ := Kd.R_slice HO322.out; subst eo112; obtain ⟨Ao113, co113, eo113⟩ := Kd.S_slice HO315.out; subst eo113; obtain ⟨Ao114, co114, eo114⟩ := Kd.R_slice HO318.out; subst eo114) | ((with_reducible refine gate_callee (f := 35) rfl ?_); refine goesL_ (some 48) rfl rfl Try.func35 (by kernel_rfl) rfl #[.int .i64 a0, .slice Ao113 t313.length co113, .slice Ao114 t316.length co114, .agg #[.int .i64 t319, .slice Ao112 t320.length co112]] rfl (by (try simp only [List.map_toArray, List.map_cons, List.map_nil]); first | done | rfl | (simp only [List.length_drop, List.length_take]; rfl)) ?_; (with_reducible refine (impl_ProofOk.calls a0 _ _ t313 _ _ t316 t319 _ _ t320 t324 _ ?side1 ?side2 ?side3 ?side4 ?side5 ?side6 A26.out).mono ?_); (case side1 => refine (Kd.S_reads' (e := 38) (base := w.heap.size) (ok := fun k_ => (((True ∧ some k_ ≠ (.slice Ao101 t302.length co101 : Value).ownBlock) ∧ some k_ ≠ (.slice Ao102 t305.length co102 : Value).ownBlock) ∧ some k_ ≠ (.slice Ao114 t316.length co114 : Value).ownBlock)) (n := t313.length) (c := co113) ?_).2.2; exact (by (with_reducible repeat (first | apply Kd.S_alloc | apply Kd.S_drewN | apply Kd.S_drew)); exact (Kd.S_mono (Kd.S_far (p := ⟨gb323, 1, none⟩) (Kd.S_far (p := ⟨gb323, 0, none⟩) (Kd.S_types HO315.out BK323.out (by decide)) (fun _ hk => hk.2) (.int .i64 t319)) (fun _ hk => hk.2) (.slice Ao112 t320.length co112)) (fun _ h_ => h_.1)))); (case side2 => exact (Kd.S_reads' HO315.out).2.1); (case side3 => refine (Kd.R_reads' (e := 47) (base := w.heap.size) (ok := fun k_ => (True ∧ some k_ ≠ (.slice Ao102 t305.length co102 : Value).ownBlock)) (n := t316.length) (c := co114) ?_).2.2; exact (by (with_reducible repeat (first | apply Kd.R_alloc | apply Kd.R_drewN | apply Kd.R_drew)); exact (Kd.R_mono (Kd.R_far (p := ⟨gb323, 1, none⟩) (Kd.R_far (p := ⟨gb323, 0, none⟩) (Kd.R_types HO318.out BK323.out (by decide)) (fun _ hk => hk.2) (.int .i64 t319)) (fun _ hk => hk.2) (.slice Ao112 t320.length co112)) (fun _ h_ => h_.1)))); (case side4 => exact (Kd.R_reads' HO318.out).2.1); (case side5 => refine (Kd.R_reads' (e := 93) (base := w.heap.size) (ok := fun k_ => (True ∧ some k_ ≠ (.slice Ao103 t309.length co103 : Value).ownBlock)) (n := t320.length) (c := co112) ?_).2.2; exact (by (with_reducible repeat (first | apply Kd.R_alloc | apply Kd.R_drewN | apply Kd.R_drew)); exact (Kd.R_mono (Kd.R_far (p := ⟨gb323, 1, none⟩) (Kd.R_far (p := ⟨gb323, 0, none⟩) (Kd.R_types HO322.out BK323.out (by decide)) (fun _ hk => hk.2) (.int .i64 t319)) (fun _ hk => hk.2) (.slice Ao112 t320.length co112)) (fun _ h_ => h_.1)))); (case side6 => exact (Kd.R_reads' HO322.out).2.1); rintro e w115 ⟨rfl, hb⟩; refine ⟨_, rfl, ?_⟩; have n0_ := Aside0.mk (Kd.S_below (by (with_reducible repeat (first | apply Kd.S_alloc | apply Kd.S_drewN | apply Kd.S_drew)); exact (Kd.S_mono (Kd.S_far (p := ⟨gb323, 1, none⟩) (Kd.S_far (p := ⟨gb323, 0, none⟩) (Kd.S_types HO304.out BK323.out (by decide)) (fun _ hk => hk.2) (.int .i64 t319)) (fun _ hk => hk.2) (.slice Ao112 t320.length co112)) (fun _ h_ => h_.1))) hb); have n1_ := Aside0.mk (Kd.R_below (by (with_reducible repeat (first | apply Kd.R_alloc | apply Kd.R_drewN | apply Kd.R_drew)); exact (Kd.R_mono (Kd.R_far (p := ⟨gb323, 1, none⟩) (Kd.R_far (p := ⟨gb323, 0, none⟩) (Kd.R_types HO307.out BK323.out (by decide)) (fun _ hk => hk.2) (.int .i64 t319)) (fun _ hk => hk.2) (.slice Ao112 t320.length co112)) (fun _ h_ => h_.1))) hb); have n2_ := Aside0.mk (Kd.R_below (by (with_reducible repeat (first | apply Kd.R_alloc | apply Kd.R_drewN | apply Kd.R_drew)); exact (Kd.R_mono (Kd.R_far (p := ⟨gb323, 1, none⟩) (Kd.R_far (p := ⟨gb323, 0, none⟩) (Kd.R_types HO311.out BK323.out (by decide)) (fun _ hk => hk.2) (.int .i64 t319)) (fun _ hk => hk.2) (.slice Ao112 t320.length co112)) (fun _ h_ => h_.1))) hb); have n3_ := Aside0.mk (Kd.S_below (by (with_reducible repeat (first | apply Kd.S_alloc | apply Kd.S_drewN | apply Kd.S_drew)); exact (Kd.S_mono (Kd.S_far (p := ⟨gb323, 1, none⟩) (Kd.S_far (p := ⟨gb323, 0, none⟩) (Kd.S_types HO315.out BK323.out (by decide)) (fun _ hk => hk.2) (.int .i64 t319)) (fun _ hk => hk.2) (.slice Ao112 t320.length co112)) (fun _ h_ => h_.1))) hb); have n4_ := Aside0.mk (Kd.R_below (by (with_reducible repeat (first | apply Kd.R_alloc | apply Kd.R_drewN | apply Kd.R_drew)); exact (Kd.R_mono (Kd.R_far (p := ⟨gb323, 1, none⟩) (Kd.R_far (p := ⟨gb323, 0, none⟩) (Kd.R_types HO318.out BK323.out (by decide)) (fun _ hk => hk.2) (.int .i64 t319)) (fun _ hk => hk.2) (.slice Ao112 t320.length co112)) (fun _ h_ => h_.1))) hb); have n5_ := Aside0.mk (Kd.R_below (by (with_reducible repeat (first | apply Kd.R_alloc | apply Kd.R_drewN | apply Kd.R_drew)); exact (Kd.R_mono (Kd.R_far (p := ⟨gb323, 1, none⟩) (Kd.R_far (p := ⟨gb323, 0, none⟩) (Kd.R_types HO322.out BK323.out (by decide)) (fun _ hk => hk.2) (.int .i64 t319)) (fun _ hk => hk.2) (.slice Ao112 t320.length co112)) (fun _ h_ => h_.1))) hb); have n6_ := Aside0.mk (blk_below (g := gb298) (o := .cells #[.int .i64 a3_0, .slice A3_1 l3_1.length c3_1] 57 (0, 0)) (by (with_reducible repeat (first | refine blk_drewN ?_ _ | refine blk_drew ?_ | refine blk_alloc ?_ _)); refine blk_far ?_ NB298_323.out _; (with_reducible repeat (first | refine blk_drewN ?_ _ | refine blk_drew ?_ | refine blk_alloc ?_ _)); refine blk_far ?_ NB298_323.out _; (with_reducible repeat (first | refine blk_drewN ?_ _ | refine blk_drew ?_ | refine blk_alloc ?_ _)); exact BK298.out) hb); have n7_ := Aside0.mk (blk_below (g := gb323) (o := .cells #[.int .i64 t319, .slice Ao112 t320.length co112] 51 (0, 0)) (by (with_reducible repeat (first | refine blk_drewN ?_ _ | refine blk_drew ?_ | refine blk_alloc ?_ _)); refine blk_put (cs := #[.int .i64 t319, .slice none 0 0]) ?_ 1 _ rfl; (with_reducible repeat (first | refine blk_drewN ?_ _ | refine blk_drew ?_ | refine blk_alloc ?_ _)); refine blk_put (cs := #[.int .i64 0, .slice none 0 0]) ?_ 0 _ rfl; (with_reducible repeat (first | refine blk_drewN ?_ _ | refine blk_drew ?_ | refine blk_alloc ?_ _)); exact BK323.out) hb); have n8_ := Aside0.mk (below_step (at_ HB.out) hb); clear HO304; clear HO307; clear HO311; clear HO315; clear HO318; clear HO322; clear BK298; clear BK323; clear HB; have HO304 := n0_; have HO307 := n1_; have HO311 := n2_; have HO315 := n3_; have HO318 := n4_; have HO322 := n5_; have BK298 := n6_; have BK323 := n7_; have HB := n8_; clear n0_ n1_ n2_ n3_ n4_ n5_ n6_ n7_ n8_; (try clear hb); (try clear hb2); (try clear hk); (try clear hi)) | ((with_reducible refine gate_callee (f := 14) rfl ?_); refine goesL_ (some 54) rfl rfl Try.func14 (by kernel_rfl) rfl #[.slice A1 l1.length c1] rfl (by (try simp only [List.map_toArray, List.map_cons, List.map_nil]); first | done | rfl | (simp only [List.length_drop, List.length_take]; rfl)) ?_; (with_reducible refine (laws_toClaimS.calls k _ _ l1 t325 _ ?side1 ?side2 A51.out).mono ?_); (case side1 => exact Kd.C_below (Kd.C_below HR1.out HB.out) lt_); (case side2 => exact HC1.out); rintro e w116 ⟨v326, rfl, ho0, hb⟩; refine ⟨_, rfl, ?_⟩; have n0_ := Aside0.mk (Kd.S_elder' (Kd.S_below HO304.out lt_) (Kd.S_base ho0) hb); have n1_ := Aside0.mk (Kd.R_below (Kd.R_below HO307.out lt_) hb); have n2_ := Aside0.mk (Kd.R_below (Kd.R_below HO311.out lt_) hb); have n3_ := Aside0.mk (Kd.S_elder' (Kd.S_below HO315.out lt_) (Kd.S_base ho0) hb); have n4_ := Aside0.mk (Kd.R_below (Kd.R_below HO318.out lt_) hb); have n5_ := Aside0.mk (Kd.R_below (Kd.R_below HO322.out lt_) hb); have n6_ := Aside0.mk (Kd.S_lower (Kd.S_new' (Kd.S_new' (Kd.S_new' (Kd.S_new' ho0 (Kd.S_lt (Kd.S_below HO304.out lt_))) (Kd.R_lt (Kd.R_below HO307.out lt_))) (Kd.S_lt (Kd.S_below HO315.out lt_))) (Kd.R_lt (Kd.R_below HO318.out lt_))) (below_size (at_ HB.out))); have n7_ := Aside0.mk (blk_at BK298.out hb); have n8_ := Aside0.mk (blk_at BK323.out hb); have n9_ := Aside0.mk (below_step (at_ HB.out) hb); clear HO304; clear HO307; clear HO311; clear HO315; clear HO318; clear HO322; clear BK298; clear BK323; clear HB; have HO304 := n0_; have HO307 := n1_; have HO311 := n2_; have HO315 := n3_; have HO318 := n4_; have HO322 := n5_; have HO327 := n6_; have BK298 := n7_; have BK323 := n8_; have HB := n9_; clear n0_ n1_ n2_ n3_ n4_ n5_ n6_ n7_ n8_ n9_; (try clear hb); (try clear hb2); (try clear hk); (try clear hi); (try clear ho0); obtain ⟨Ao117, co117, eo117⟩ := Kd.S_slice HO327.out; subst eo117) | ((with_reducible refine gate_callee (f := 16) rfl ?_); refine goesL_ (some 55) rfl rfl Try.func16 (by kernel_rfl) rfl #[.slice Ao113 t313.length co113, .slice Ao117 t325.length co117] rfl (by (try simp only [List.map_toArray, List.map_cons, List.map_nil]); first | done | rfl | (simp only [List.length_drop, List.length_take]; rfl)) ?_; (with_reducible refine (laws_eqClaimS.calls k _ _ t313 _ _ t325 true _ ?side1 ?side2 ?side3 ?side4 A52.out).mono ?_); (case side1 => exact Kd.C_below (Kd.S_reads' HO315.out).2.2 lt_); (case side2 => exact (Kd.S_reads' HO315.out).2.1); (case side3 => exact Kd.C_below (Kd.S_reads' HO327.out).2.2 lt_); (case side4 => exact (Kd.S_reads' HO327.out).2.1); rintro e w118 ⟨rfl, hb⟩; refine ⟨_, rfl, ?_⟩; have n0_ := Aside0.mk (Kd.S_below (Kd.S_below HO304.out lt_) hb); have n1_ := Aside0.mk (Kd.R_below (Kd.R_below HO307.out lt_) hb); have n2_ := Aside0.mk (Kd.R_below (Kd.R_below HO311.out lt_) hb); have n3_ := Aside0.mk (Kd.S_below (Kd.S_below HO315.out lt_) hb); have n4_ := Aside0.mk (Kd.R_below (Kd.R_below HO318.out lt_) hb); have n5_ := Aside0.mk (Kd.R_below (Kd.R_below HO322.out lt_) hb); have n6_ := Aside0.mk (Kd.S_below (Kd.S_below HO327.out lt_) hb); have n7_ := Aside0.mk (blk_at BK298.out hb); have n8_ := Aside0.mk (blk_at BK323.out hb); have n9_ := Aside0.mk (below_step (at_ HB.out) hb); clear HO304; clear HO307; clear HO311; clear HO315; clear HO318; clear HO322; clear HO327; clear BK298; clear BK323; clear HB; have HO304 := n0_; have HO307 := n1_; have HO311 := n2_; have HO315 := n3_; have HO318 := n4_; have HO322 := n5_; have HO327 := n6_; have BK298 := n7_; have BK323 := n8_; have HB := n9_; clear n0_ n1_ n2_ n3_ n4_ n5_ n6_ n7_ n8_ n9_; (try clear hb); (try clear hb2); (try clear hk); (try clear hi)) | ((with_reducible refine gate_callee (f := 33) rfl ?_); refine goesL_ (some 59) rfl rfl Try.func33 (by kernel_rfl) rfl #[.slice A2 l2.length c2] rfl (by (try simp only [List.map_toArray, List.map_cons, List.map_nil]); first | done | rfl | (simp only [List.length_drop, List.length_take]; rfl)) ?_; (with_reducible refine (laws_toMarkS.calls k _ _ l2 t329 _ ?side1 ?side2 A54.out).mono ?_); (case side1 => exact Kd.C_below (Kd.C_below HR2.out HB.out) lt_); (case side2 => exact HC2.out); rintro e w119 ⟨v330, rfl, ho0, hb⟩; refine ⟨_, rfl, ?_⟩; have n0_ := Aside0.mk (Kd.S_elder' (Kd.S_below HO304.out lt_) (Kd.R_base ho0) hb); have n1_ := Aside0.mk (Kd.R_elder' (Kd.R_below HO307.out lt_) (Kd.R_base ho0) hb); have n2_ := Aside0.mk (Kd.R_below (Kd.R_below HO311.out lt_) hb); have n3_ := Aside0.mk (Kd.S_elder' (Kd.S_below HO315.out lt_) (Kd.R_base ho0) hb); have n4_ := Aside0.mk (Kd.R_elder' (Kd.R_below HO318.out lt_) (Kd.R_base ho0) hb); have n5_ := Aside0.mk (Kd.R_below (Kd.R_below HO322.out lt_) hb); have n6_ := Aside0.mk (Kd.S_elder' (Kd.S_below HO327.out lt_) (Kd.R_base ho0) hb); have n7_ := Aside0.mk (Kd.R_lower (Kd.R_new' (Kd.R_new' ho0 (Kd.R_lt (Kd.R_below HO307.out lt_))) (Kd.R_lt (Kd.R_below HO318.out lt_))) (below_size (at_ HB.out))); have n8_ := Aside0.mk (blk_at BK298.out hb); have n9_ := Aside0.mk (blk_at BK323.out hb); have n10_ := Aside0.mk (below_step (at_ HB.out) hb); clear HO304; clear HO307; clear HO311; clear HO315; clear HO318; clear HO322; clear HO327; clear BK298; clear BK323; clear HB; have HO304 := n0_; have HO307 := n1_; have HO311 := n2_; have HO315 := n3_; have HO318 := n4_; have HO322 := n5_; have HO327 := n6_; have HO331 := n7_; have BK298 := n8_; have BK323 := n9_; have HB := n10_; clear n0_ n1_ n2_ n3_ n4_ n5_ n6_ n7_ n8_ n9_ n10_; (try clear hb); (try clear hb2); (try clear hk); (try clear hi); (try clear ho0); obtain ⟨Ao120, co120, eo120⟩ := Kd.R_slice HO331.out; subst eo120) | ((with_reducible refine gate_callee (f := 36) rfl ?_); refine goesL_ (some 60) rfl rfl Try.func36 (by kernel_rfl) rfl #[.slice Ao114 t316.length co114, .slice Ao120 t329.length co120] rfl (by (try simp only [List.map_toArray, List.map_cons, List.map_nil]); first | done | rfl | (simp only [List.length_drop, List.length_take]; rfl)) ?_; (with_reducible refine (laws_eqMarkS.calls k _ _ t316 _ _ t329 true _ ?side1 ?side2 ?side3 ?side4 A55.out).mono ?_); (case side1 => exact Kd.C_below (Kd.R_reads' HO318.out).2.2 lt_); (case side2 => exact (Kd.R_reads' HO318.out).2.1); (case side3 => exact Kd.C_below (Kd.R_reads' HO331.out).2.2 lt_); (case side4 => exact (Kd.R_reads' HO331.out).2.1); rintro e w121 ⟨rfl, hb⟩; refine ⟨_, rfl, ?_⟩; have n0_ := Aside0.mk (Kd.S_below (Kd.S_below HO304.out lt_) hb); have n1_ := Aside0.mk (Kd.R_below (Kd.R_below HO307.out lt_) hb); have n2_ := Aside0.mk (Kd.R_below (Kd.R_below HO311.out lt_) hb); have n3_ := Aside0.mk (Kd.S_below (Kd.S_below HO315.out lt_) hb); have n4_ := Aside0.mk (Kd.R_below (Kd.R_below HO318.out lt_) hb); have n5_ := Aside0.mk (Kd.R_below (Kd.R_below HO322.out lt_) hb); have n6_ := Aside0.mk (Kd.S_below (Kd.S_below HO327.out lt_) hb); have n7_ := Aside0.mk (Kd.R_below (Kd.R_below HO331.out lt_) hb); have n8_ := Aside0.mk (blk_at BK298.out hb); have n9_ := Aside0.mk (blk_at BK323.out hb); have n10_ := Aside0.mk (below_step (at_ HB.out) hb); clear HO304; clear HO307; clear HO311; clear HO315; clear HO318; clear HO322; clear HO327; clear HO331; clear BK298; clear BK323; clear HB; have HO304 := n0_; have HO307 := n1_; have HO311 := n2_; have HO315 := n3_; have HO318 := n4_; have HO322 := n5_; have HO327 := n6_; have HO331 := n7_; have BK298 := n8_; have BK323 := n9_; have HB := n10_; clear n0_ n1_ n2_ n3_ n4_ n5_ n6_ n7_ n8_ n9_ n10_; (try clear hb); (try clear hb2); (try clear hk); (try clear hi)))
        have n0_ := Aside0.mk (Kd.S_drew HO304.out)
        have n1_ := Aside0.mk (Kd.R_drew HO307.out)
        have n2_ := Aside0.mk (Kd.R_drew HO311.out)
        have n3_ := Aside0.mk (Kd.S_drew HO315.out)
        have n4_ := Aside0.mk (Kd.R_drew HO318.out)
        have n5_ := Aside0.mk (Kd.R_drew HO322.out)
        have n6_ := Aside0.mk (Kd.S_drew HO327.out)
        have n7_ := Aside0.mk (Kd.R_drew HO331.out)
        have n8_ := Aside0.mk (blk_drew BK298.out)
        have n9_ := Aside0.mk (blk_drew BK323.out)
        have n10_ := Aside0.mk (below_drew1 HB.out)
        clear HO304
        clear HO307
        clear HO311
        clear HO315
        clear HO318
        clear HO322
        clear HO327
        clear HO331
        clear BK298
        clear BK323
        clear HB
        have HO304 := n0_
        have HO307 := n1_
        have HO311 := n2_
        have HO315 := n3_
        have HO318 := n4_
        have HO322 := n5_
        have HO327 := n6_
        have HO331 := n7_
        have BK298 := n8_
        have BK323 := n9_
        have HB := n10_
        clear n0_ n1_ n2_ n3_ n4_ n5_ n6_ n7_ n8_ n9_ n10_
        refine start_ (n := 5) (S := fun w' => w'.cell? ⟨gb323, 0, none⟩ = some (.int .i64 t319) ∧ w'.cell? ⟨gb323, 1, none⟩ = some (.slice Ao112 t320.length co112) ∧ w'.cell? ⟨gb298, 0, none⟩ = some (.int .i64 a3_0) ∧ w'.cell? ⟨gb298, 1, none⟩ = some (.slice A3_1 l3_1.length c3_1)) (ds := []) #[false, false, false, false, false] (by kernel_rfl) rfl rfl ⟨(blk_cell BK323.out 0).trans rfl, (blk_cell BK323.out 1).trans rfl, (blk_cell BK298.out 0).trans rfl, (blk_cell BK298.out 1).trans rfl⟩ (fun hHeld => ?_)
        generalize w121.drew = w122 at HO304 HO307 HO311 HO315 HO318 HO322 HO327 HO331 BK298 BK323 HB hHeld ⊢
        refine take_ (i := 0) (N := some 62) (v := ?_) (a' := ?_) #[true, false, false, false, false] rfl rfl (by kernel_rfl) (fun _ _ _ h => h) (Or.inl ⟨by rfl, ?_⟩) hHeld ?_ ?_
        rotate_left
        ·rintro w' ⟨s0, s1, s2, s3⟩
         go_simp
         with_reducible rfl
        rotate_left
        ·simp only [Act.put, z0_, z1_, z2_, i64_w, i32_w]
         rfl
        refine take_ (i := 1) (N := some 63) (v := ?_) (a' := ?_) #[true, true, false, false, false] rfl rfl (by kernel_rfl) (fun _ _ _ h => h) (Or.inl ⟨by rfl, ?_⟩) hHeld ?_ ?_
        rotate_left
        ·rintro w' ⟨s0, s1, s2, s3⟩
         go_simp
         with_reducible rfl
        rotate_left
        ·simp only [Act.put, z0_, z1_, z2_, i64_w, i32_w]
         rfl
        refine one_ (i := 2) (N := some 64) #[true, true, true, false, false] rfl rfl (by kernel_rfl) (by decide) (fun K hK => ?_)
        refine goes_ Try.func34 (by kernel_rfl) rfl #[.agg #[.int .i64 a3_0, .slice A3_1 l3_1.length c3_1]] (by rfl) rfl rfl (by (try simp only [List.map_toArray, List.map_cons, List.map_nil]); first | done | rfl | (simp only [List.length_drop, List.length_take]; rfl)) ?_
        with_reducible refine (laws_toProof.calls k a3_0 _ _ l3_1 t333 t334 _ ?side1 ?side2 A57.out).mono ?_
        (case side1 => exact Kd.C_below (Kd.C_below HR3_1.out HB.out) lt_)
        (case side2 => exact HC3_1.out)
        rintro e w123 ⟨v335, rfl, ho0, hb⟩
        refine ⟨_, rfl, ?_⟩
        have n0_ := Aside0.mk (Kd.S_below (Kd.S_below HO304.out lt_) hb)
        have n1_ := Aside0.mk (Kd.R_below (Kd.R_below HO307.out lt_) hb)
        have n2_ := Aside0.mk (Kd.R_elder' (Kd.R_below HO311.out lt_) (Kd.R_base ho0) hb)
        have n3_ := Aside0.mk (Kd.S_below (Kd.S_below HO315.out lt_) hb)
        have n4_ := Aside0.mk (Kd.R_below (Kd.R_below HO318.out lt_) hb)
        have n5_ := Aside0.mk (Kd.R_elder' (Kd.R_below HO322.out lt_) (Kd.R_base ho0) hb)
        have n6_ := Aside0.mk (Kd.S_below (Kd.S_below HO327.out lt_) hb)
        have n7_ := Aside0.mk (Kd.R_below (Kd.R_below HO331.out lt_) hb)
        have n8_ := Aside0.mk (Kd.R_lower (Kd.R_new' (Kd.R_new' ho0 (Kd.R_lt (Kd.R_below HO311.out lt_))) (Kd.R_lt (Kd.R_below HO322.out lt_))) (below_size (at_ HB.out)))
        have n9_ := Aside0.mk (blk_at BK298.out hb)
        have n10_ := Aside0.mk (blk_at BK323.out hb)
        have n11_ := Aside0.mk (below_step (at_ HB.out) hb)
        clear HO304
        clear HO307
        clear HO311
        clear HO315
        clear HO318
        clear HO322
        clear HO327
        clear HO331
        clear BK298
        clear BK323
        clear HB
        have HO304 := n0_
        have HO307 := n1_
        have HO311 := n2_
        have HO315 := n3_
        have HO318 := n4_
        have HO322 := n5_
        have HO327 := n6_
        have HO331 := n7_
        have HO336 := n8_
        have BK298 := n9_
        have BK323 := n10_
        have HB := n11_
        clear n0_ n1_ n2_ n3_ n4_ n5_ n6_ n7_ n8_ n9_ n10_ n11_
        (try clear hb)
        (try clear hb2)
        (try clear hk)
        (try clear hi)
        (try clear ho0)
        obtain ⟨Ao124, co124, eo124⟩ := Kd.R_slice HO336.out
        (first | subst eo124 | (injection eo124 with f1_ f2_ f3_; have f4_ := f1_.symm; have f5_ := f3_.symm; clear f1_ f2_ f3_; subst f4_; subst f5_))
        refine hK.out _ _ ⟨(blk_cell BK323.out 0).trans rfl, (blk_cell BK323.out 1).trans rfl, (blk_cell BK298.out 0).trans rfl, (blk_cell BK298.out 1).trans rfl⟩ (fun hHeld => ?_)
        clear hK K
        refine norm_ (a' := ?_) ?_ ?_
        rotate_left
        ·show Act.put _ (some 64) _ = _
         simp only [Act.put, z0_, z1_, z2_, i64_w, i32_w]
         rfl
        refine one_ (i := 3) (N := some 65) #[true, true, true, true, false] rfl rfl (by kernel_rfl) (by decide) (fun K hK => ?_)
        refine goes_ Try.func37 (by kernel_rfl) rfl #[.agg #[.int .i64 t319, .slice Ao112 t320.length co112], .agg #[.int .i64 t333, .slice Ao124 t334.length co124]] (by rfl) rfl rfl (by (try simp only [List.map_toArray, List.map_cons, List.map_nil]); first | done | rfl | (simp only [List.length_drop, List.length_take]; rfl)) ?_
        with_reducible refine (laws_eqProof.calls k t319 _ _ t320 t333 _ _ t334 false _ ?side1 ?side2 ?side3 ?side4 A58.out).mono ?_
        (case side1 => exact Kd.C_below (Kd.R_reads' HO322.out).2.2 lt_)
        (case side2 => exact (Kd.R_reads' HO322.out).2.1)
        (case side3 => exact Kd.C_below (Kd.R_reads' HO336.out).2.2 lt_)
        (case side4 => exact (Kd.R_reads' HO336.out).2.1)
        rintro e w125 ⟨rfl, hb⟩
        refine ⟨_, rfl, ?_⟩
        have n0_ := Aside0.mk (Kd.S_below (Kd.S_below HO304.out lt_) hb)
        have n1_ := Aside0.mk (Kd.R_below (Kd.R_below HO307.out lt_) hb)
        have n2_ := Aside0.mk (Kd.R_below (Kd.R_below HO311.out lt_) hb)
        have n3_ := Aside0.mk (Kd.S_below (Kd.S_below HO315.out lt_) hb)
        have n4_ := Aside0.mk (Kd.R_below (Kd.R_below HO318.out lt_) hb)
        have n5_ := Aside0.mk (Kd.R_below (Kd.R_below HO322.out lt_) hb)
        have n6_ := Aside0.mk (Kd.S_below (Kd.S_below HO327.out lt_) hb)
        have n7_ := Aside0.mk (Kd.R_below (Kd.R_below HO331.out lt_) hb)
        have n8_ := Aside0.mk (Kd.R_below (Kd.R_below HO336.out lt_) hb)
        have n9_ := Aside0.mk (blk_at BK298.out hb)
        have n10_ := Aside0.mk (blk_at BK323.out hb)
        have n11_ := Aside0.mk (below_step (at_ HB.out) hb)
        clear HO304
        clear HO307
        clear HO311
        clear HO315
        clear HO318
        clear HO322
        clear HO327
        clear HO331
        clear HO336
        clear BK298
        clear BK323
        clear HB
        have HO304 := n0_
        have HO307 := n1_
        have HO311 := n2_
        have HO315 := n3_
        have HO318 := n4_
        have HO322 := n5_
        have HO327 := n6_
        have HO331 := n7_
        have HO336 := n8_
        have BK298 := n9_
        have BK323 := n10_
        have HB := n11_
        clear n0_ n1_ n2_ n3_ n4_ n5_ n6_ n7_ n8_ n9_ n10_ n11_
        (try clear hb)
        (try clear hb2)
        (try clear hk)
        (try clear hi)
        refine hK.out _ _ ⟨(blk_cell BK323.out 0).trans rfl, (blk_cell BK323.out 1).trans rfl, (blk_cell BK298.out 0).trans rfl, (blk_cell BK298.out 1).trans rfl⟩ (fun hHeld => ?_)
        clear hK K
        refine norm_ (a' := ?_) ?_ ?_
        rotate_left
        ·show Act.put _ (some 65) _ = _
         simp only [Act.put, z0_, z1_, z2_, i64_w, i32_w]
         rfl
        refine pure_ (i := 4) (N := some 66) (v := ?_) (a' := ?_) #[true, true, true, true, true] rfl rfl (by kernel_rfl) (fun _ _ _ h => h) (Or.inl ⟨by rfl, ?_⟩) ?_ ?_
        rotate_left
        ·intro w'
         go_simp
         with_reducible rfl
        rotate_left
        ·simp only [Act.put, z0_, z1_, z2_, i64_w, i32_w]
         rfl
        refine done_ (by kernel_rfl) ?_
        try go_wp2
        go_ret
        exact ⟨by first | rfl | (simp [errW_none, errW_some] <;> rfl) | (simp [*, errW_none, errW_some] <;> rfl), at_ HB.out⟩
      ·replace c56 := Bool.eq_false_iff.mpr c56
       subst c56
       rw [if_neg (show ¬ (false = true) by decide)] at H
       obtain rfl := Option.some.inj H
       go_enter Try.func8, Try.ntmps8
       try go_wp2_with (first | ((with_reducible refine gate_dst (N := 7) rfl ?_); refine box_event ?hg (N := 7) ?hd (cs := #[.int .i64 a3_0, .slice A3_1 l3_1.length c3_1]) (t := 57) ?hr ?_; (case hd => rfl); (case hg => rfl); (case hr => first | (go_simp; done) | (go_simp; rfl)); intro gb298 hg w126 hbox hb; have n0_ := Aside0.mk (below_step (below_at HB.out) hb); have n1_ := Aside0.mk (hbox); have n2_ := Aside0.mk ((by rw [hg]; exact (below_size (below_at HB.out)) : w.heap.size ≤ gb298)); have n3_ := Aside0.mk ((by rw [hg]; exact (below_size (below_at HB.out)) : w.heap.size ≤ gb298)); clear HB; have HB := n0_; have BK298 := n1_; have GW298 := n2_; have GE298 := n3_; clear n0_ n1_ n2_ n3_; clear hb hbox hg) | ((with_reducible refine gate_callee (f := 12) rfl ?_); refine goesL_ (some 17) rfl rfl Try.func12 (by kernel_rfl) rfl #[.slice A1 l1.length c1, .int .i64 1048576] rfl (by (try simp only [List.map_toArray, List.map_cons, List.map_nil]); first | done | rfl | (simp only [List.length_drop, List.length_take]; rfl)) ?_; (with_reducible refine (laws_szClaimS.calls k _ _ l1 1048576 t299 _ ?side1 ?side2 A5.out).mono ?_); (case side1 => exact Kd.C_below (Kd.C_below HR1.out HB.out) lt_); (case side2 => exact HC1.out); rintro e w127 ⟨rfl, hb⟩; refine ⟨_, rfl, ?_⟩; have n0_ := Aside0.mk (blk_at BK298.out hb); have n1_ := Aside0.mk (below_step (at_ HB.out) hb); clear BK298; clear HB; have BK298 := n0_; have HB := n1_; clear n0_ n1_; (try clear hb); (try clear hb2); (try clear hk); (try clear hi)) | ((with_reducible refine gate_callee (f := 30) rfl ?_); refine goesL_ (some 22) rfl rfl Try.func30 (by kernel_rfl) rfl #[.slice A2 l2.length c2, .int .i64 t299] rfl (by (try simp only [List.map_toArray, List.map_cons, List.map_nil]); first | done | rfl | (simp only [List.length_drop, List.length_take]; rfl)) ?_; (with_reducible refine (laws_szMarkS.calls _ _ l2 t299 t300 _ ?side1 ?side2 A9.out).mono ?_); (case side1 => exact Kd.C_below (Kd.C_below HR2.out HB.out) lt_); (case side2 => exact HC2.out); rintro e w' ⟨rfl, ⟨nd, rfl⟩⟩; refine ⟨_, rfl, ?_⟩; (try (rw [drewN_self w127]; generalize hq_ : World.drewN w127 _ = w127; have n0_ : Aside0 (w127.heap[gb298]? = some (.cells #[.int .i64 a3_0, .slice A3_1 l3_1.length c3_1] 57 (0, 0))) := ⟨by rw [← hq_]; exact (by (with_reducible repeat (first | refine blk_drewN ?_ _ | refine blk_drew ?_ | refine blk_alloc ?_ _)); exact BK298.out)⟩; have n1_ : Aside0 (Below w.heap.size w w127) := ⟨by rw [← hq_]; exact (at_ HB.out)⟩; clear BK298 HB hq_; have BK298 := n0_; have HB := n1_; clear n0_ n1_)); have hcz128_0 := blk_cell BK298.out 0; have hcz128_1 := blk_cell BK298.out 1; have hfz128_0 := blk_frozen BK298.out 0; have hfz128_1 := blk_frozen BK298.out 1) | ((with_reducible refine gate_callee (f := 31) rfl ?_); refine goesL_ (some 27) rfl rfl Try.func31 (by kernel_rfl) rfl #[.agg #[.int .i64 a3_0, .slice A3_1 l3_1.length c3_1], .int .i64 t300] rfl (by (try simp only [List.map_toArray, List.map_cons, List.map_nil]); first | done | rfl | (simp only [List.length_drop, List.length_take]; rfl)) ?_; (with_reducible refine (laws_szProof.calls a3_0 _ _ l3_1 t300 t301 _ ?side1 ?side2 A13.out).mono ?_); (case side1 => exact Kd.C_below (Kd.C_below HR3_1.out HB.out) lt_); (case side2 => exact HC3_1.out); rintro e w129 ⟨rfl, hb⟩; refine ⟨_, rfl, ?_⟩; have n0_ := Aside0.mk (blk_at BK298.out hb); have n1_ := Aside0.mk (below_step (at_ HB.out) hb); clear BK298; clear HB; have BK298 := n0_; have HB := n1_; clear n0_ n1_; (try clear hb); (try clear hb2); (try clear hk); (try clear hi)))
       have n0_ := Aside0.mk (blk_drew BK298.out)
       have n1_ := Aside0.mk (below_drew1 HB.out)
       clear BK298
       clear HB
       have BK298 := n0_
       have HB := n1_
       clear n0_ n1_
       refine start_ (n := 9) (S := fun w' => w'.cell? ⟨gb298, 0, none⟩ = some (.int .i64 a3_0) ∧ w'.cell? ⟨gb298, 1, none⟩ = some (.slice A3_1 l3_1.length c3_1)) (ds := []) #[false, false, false, false, false, false, false, false, false] (by kernel_rfl) rfl rfl ⟨(blk_cell BK298.out 0).trans rfl, (blk_cell BK298.out 1).trans rfl⟩ (fun hHeld => ?_); refine with_tabW laws_FnExactProofOk.tab11 laws_FnExactProofOk.bits11 (fun HT_ HW_ => ?_)
       generalize w129.drew = w130 at BK298 HB hHeld ⊢
       refine pure_ (i := 0) (N := some 30) (v := ?_) (a' := ?_) #[true, false, false, false, false, false, false, false, false] rfl rfl (any_of HT_.out (by kernel_rfl)) (fun _ _ _ h => h) (Or.inl ⟨by rfl, ?_⟩) ?_ ?_
       rotate_left
       ·intro w'
        go_simp
        with_reducible rfl
       rotate_left
       ·simp only [Act.put, z0_, z1_, z2_, i64_w, i32_w]
        rfl
       refine pure_ (i := 1) (N := some 31) (v := ?_) (a' := ?_) #[true, true, false, false, false, false, false, false, false] rfl rfl (any_of HT_.out (by kernel_rfl)) (fun _ _ _ h => h) (Or.inl ⟨by rfl, ?_⟩) ?_ ?_
       rotate_left
       ·intro w'
        go_simp
        with_reducible rfl
       rotate_left
       ·simp only [Act.put, z0_, z1_, z2_, i64_w, i32_w]
        rfl
       refine pure_ (i := 3) (N := some 33) (v := ?_) (a' := ?_) #[true, true, false, true, false, false, false, false, false] rfl rfl (any_of HT_.out (by kernel_rfl)) (fun _ _ _ h => h) (Or.inl ⟨by rfl, ?_⟩) ?_ ?_
       rotate_left
       ·intro w'
        go_simp
        with_reducible rfl
       rotate_left
       ·simp only [Act.put, z0_, z1_, z2_, i64_w, i32_w]
        rfl
       refine take_ (i := 5) (N := some 35) (v := ?_) (a' := ?_) #[true, true, false, true, false, true, false, false, false] rfl rfl (take_ofW HT_.out HW_.out (by kernel_rfl)) (fun _ _ _ h => h) (Or.inl ⟨by rfl, ?_⟩) hHeld ?_ ?_
       rotate_left
       ·rintro w' ⟨s0, s1⟩
        go_simp
        with_reducible rfl
       rotate_left
       ·simp only [Act.put, z0_, z1_, z2_, i64_w, i32_w]
        rfl
       refine one_ (i := 2) (N := some 32) #[true, true, true, true, false, true, false, false, false] rfl rfl (one_of HT_.out (by kernel_rfl)) (by decide) (fun K hK => ?_)
       refine goes_ Try.func14 (by kernel_rfl) rfl #[.slice A1 l1.length c1] (by rfl) rfl rfl (by (try simp only [List.map_toArray, List.map_cons, List.map_nil]); first | done | rfl | (simp only [List.length_drop, List.length_take]; rfl)) ?_
       with_reducible refine (laws_toClaimS.calls k _ _ l1 t302 _ ?side1 ?side2 A19.out).mono ?_
       (case side1 => exact Kd.C_below (Kd.C_below HR1.out HB.out) lt_)
       (case side2 => exact HC1.out)
       rintro e w131 ⟨v303, rfl, ho0, hb⟩
       refine ⟨_, rfl, ?_⟩
       have n0_ := Aside0.mk (Kd.S_lower ho0 (below_size (at_ HB.out)))
       have n1_ := Aside0.mk (blk_at BK298.out hb)
       have n2_ := Aside0.mk (below_step (at_ HB.out) hb)
       clear BK298
       clear HB
       have HO304 := n0_
       have BK298 := n1_
       have HB := n2_
       clear n0_ n1_ n2_
       (try clear hb)
       (try clear hb2)
       (try clear hk)
       (try clear hi)
       (try clear ho0)
       refine hK.out _ _ ⟨(blk_cell BK298.out 0).trans rfl, (blk_cell BK298.out 1).trans rfl⟩ (fun hHeld => ?_)
       clear hK K
       refine norm_ (a' := ?_) ?_ ?_
       rotate_left
       ·show Act.put _ (some 32) _ = _
        simp only [Act.put, z0_, z1_, z2_, i64_w, i32_w]
        rfl
       refine one_ (i := 4) (N := some 34) #[true, true, true, true, true, true, false, false, false] rfl rfl (one_of HT_.out (by kernel_rfl)) (by decide) (fun K hK => ?_)
       refine goes_ Try.func33 (by kernel_rfl) rfl #[.slice A2 l2.length c2] (by rfl) rfl rfl (by (try simp only [List.map_toArray, List.map_cons, List.map_nil]); first | done | rfl | (simp only [List.length_drop, List.length_take]; rfl)) ?_
       with_reducible refine (laws_toMarkS.calls k _ _ l2 t305 _ ?side1 ?side2 A20.out).mono ?_
       (case side1 => exact Kd.C_below (Kd.C_below HR2.out HB.out) lt_)
       (case side2 => exact HC2.out)
       rintro e w132 ⟨v306, rfl, ho0, hb⟩
       refine ⟨_, rfl, ?_⟩
       have n0_ := Aside0.mk (Kd.S_elder' (Kd.S_below HO304.out lt_) (Kd.R_base ho0) hb)
       have n1_ := Aside0.mk (Kd.R_lower ho0 (below_size (at_ HB.out)))
       have n2_ := Aside0.mk (blk_at BK298.out hb)
       have n3_ := Aside0.mk (below_step (at_ HB.out) hb)
       clear HO304
       clear BK298
       clear HB
       have HO304 := n0_
       have HO307 := n1_
       have BK298 := n2_
       have HB := n3_
       clear n0_ n1_ n2_ n3_
       (try clear hb)
       (try clear hb2)
       (try clear hk)
       (try clear hi)
       (try clear ho0)
       refine hK.out _ _ ⟨(blk_cell BK298.out 0).trans rfl, (blk_cell BK298.out 1).trans rfl⟩ (fun hHeld => ?_)
       clear hK K
       refine norm_ (a' := ?_) ?_ ?_
       rotate_left
       ·show Act.put _ (some 34) _ = _
        simp only [Act.put, z0_, z1_, z2_, i64_w, i32_w]
        rfl
       refine one_ (i := 6) (N := some 36) #[true, true, true, true, true, true, true, false, false] rfl rfl (one_of HT_.out (by kernel_rfl)) (by decide) (fun K hK => ?_)
       refine goes_ Try.func34 (by kernel_rfl) rfl #[.agg #[.int .i64 a3_0, .slice A3_1 l3_1.length c3_1]] (by rfl) rfl rfl (by (try simp only [List.map_toArray, List.map_cons, List.map_nil]); first | done | rfl | (simp only [List.length_drop, List.length_take]; rfl)) ?_
       with_reducible refine (laws_toProof.calls k a3_0 _ _ l3_1 t308 t309 _ ?side1 ?side2 A21.out).mono ?_
       (case side1 => exact Kd.C_below (Kd.C_below HR3_1.out HB.out) lt_)
       (case side2 => exact HC3_1.out)
       rintro e w133 ⟨v310, rfl, ho0, hb⟩
       refine ⟨_, rfl, ?_⟩
       have n0_ := Aside0.mk (Kd.S_below (Kd.S_below HO304.out lt_) hb)
       have n1_ := Aside0.mk (Kd.R_below (Kd.R_below HO307.out lt_) hb)
       have n2_ := Aside0.mk (Kd.R_lower ho0 (below_size (at_ HB.out)))
       have n3_ := Aside0.mk (blk_at BK298.out hb)
       have n4_ := Aside0.mk (below_step (at_ HB.out) hb)
       clear HO304
       clear HO307
       clear BK298
       clear HB
       have HO304 := n0_
       have HO307 := n1_
       have HO311 := n2_
       have BK298 := n3_
       have HB := n4_
       clear n0_ n1_ n2_ n3_ n4_
       (try clear hb)
       (try clear hb2)
       (try clear hk)
       (try clear hi)
       (try clear ho0)
       obtain ⟨Ao134, co134, eo134⟩ := Kd.S_slice HO304.out
       (first | subst eo134 | (injection eo134 with f1_ f2_ f3_; have f4_ := f1_.symm; have f5_ := f3_.symm; clear f1_ f2_ f3_; subst f4_; subst f5_))
       obtain ⟨Ao135, co135, eo135⟩ := Kd.R_slice HO307.out
       (first | subst eo135 | (injection eo135 with f1_ f2_ f3_; have f4_ := f1_.symm; have f5_ := f3_.symm; clear f1_ f2_ f3_; subst f4_; subst f5_))
       obtain ⟨Ao136, co136, eo136⟩ := Kd.R_slice HO311.out
       (first | subst eo136 | (injection eo136 with f1_ f2_ f3_; have f4_ := f1_.symm; have f5_ := f3_.symm; clear f1_ f2_ f3_; subst f4_; subst f5_))
       refine hK.out _ _ ⟨(blk_cell BK298.out 0).trans rfl, (blk_cell BK298.out 1).trans rfl⟩ (fun hHeld => ?_)
       clear hK K
       refine norm_ (a' := ?_) ?_ ?_
       rotate_left
       ·show Act.put _ (some 36) _ = _
        simp only [Act.put, z0_, z1_, z2_, i64_w, i32_w]
        rfl
       refine one_ (i := 7) (N := some 37) #[true, true, true, true, true, true, true, true, false] rfl rfl (one_of HT_.out (by kernel_rfl)) (by decide) (fun K hK => ?_)
       refine goes_ Try.func32 (by kernel_rfl) rfl #[.int .i64 a0, .slice Ao134 t302.length co134, .slice Ao135 t305.length co135, .agg #[.int .i64 t308, .slice Ao136 t309.length co136]] (by rfl) rfl rfl (by (try simp only [List.map_toArray, List.map_cons, List.map_nil]); first | done | rfl | (simp only [List.length_drop, List.length_take]; rfl)) ?_
       with_reducible refine (spec_ProofOk.calls k a0 _ _ t302 _ _ t305 t308 _ _ t309 t312 _ ?side1 ?side2 ?side3 ?side4 ?side5 ?side6 A22.out).mono ?_
       (case side1 => exact Kd.C_below (Kd.S_reads' HO304.out).2.2 lt_)
       (case side2 => exact (Kd.S_reads' HO304.out).2.1)
       (case side3 => exact Kd.C_below (Kd.R_reads' HO307.out).2.2 lt_)
       (case side4 => exact (Kd.R_reads' HO307.out).2.1)
       (case side5 => exact Kd.C_below (Kd.R_reads' HO311.out).2.2 lt_)
       (case side6 => exact (Kd.R_reads' HO311.out).2.1)
       rintro e w137 ⟨rfl, hb⟩
       refine ⟨_, rfl, ?_⟩
       have n0_ := Aside0.mk (Kd.S_below (Kd.S_below HO304.out lt_) hb)
       have n1_ := Aside0.mk (Kd.R_below (Kd.R_below HO307.out lt_) hb)
       have n2_ := Aside0.mk (Kd.R_below (Kd.R_below HO311.out lt_) hb)
       have n3_ := Aside0.mk (blk_at BK298.out hb)
       have n4_ := Aside0.mk (below_step (at_ HB.out) hb)
       clear HO304
       clear HO307
       clear HO311
       clear BK298
       clear HB
       have HO304 := n0_
       have HO307 := n1_
       have HO311 := n2_
       have BK298 := n3_
       have HB := n4_
       clear n0_ n1_ n2_ n3_ n4_
       (try clear hb)
       (try clear hb2)
       (try clear hk)
       (try clear hi)
       refine hK.out _ _ ⟨(blk_cell BK298.out 0).trans rfl, (blk_cell BK298.out 1).trans rfl⟩ (fun hHeld => ?_)
       clear hK K
       refine norm_ (a' := ?_) ?_ ?_
       rotate_left
       ·show Act.put _ (some 37) _ = _
        simp only [Act.put, z0_, z1_, z2_, i64_w, i32_w]
        rfl
       refine pure_ (i := 8) (N := some 10) (v := ?_) (a' := ?_) #[true, true, true, true, true, true, true, true, true] rfl rfl (any_of HT_.out (by kernel_rfl)) (fun _ _ _ h => h) (Or.inl ⟨by rfl, ?_⟩) ?_ ?_
       rotate_left
       ·intro w'
        go_simp
        with_reducible rfl
       rotate_left
       ·simp only [Act.put, z0_, z1_, z2_, i64_w, i32_w]
        rfl
       refine done_ (done_of HT_.out (by kernel_rfl)) ?_
       try go_wp2_with (first | ((with_reducible refine gate_callee (f := 14) rfl ?_); refine goesL_ (some 39) rfl rfl Try.func14 (by kernel_rfl) rfl #[.slice A1 l1.length c1] rfl (by (try simp only [List.map_toArray, List.map_cons, List.map_nil]); first | done | rfl | (simp only [List.length_drop, List.length_take]; rfl)) ?_; (with_reducible refine (laws_toClaimS.calls k _ _ l1 t313 _ ?side1 ?side2 A23.out).mono ?_); (case side1 => exact Kd.C_below (Kd.C_below HR1.out HB.out) lt_); (case side2 => exact HC1.out); rintro e w138 ⟨v314, rfl, ho0, hb⟩; refine ⟨_, rfl, ?_⟩; have n0_ := Aside0.mk (Kd.S_elder' (Kd.S_below HO304.out lt_) (Kd.S_base ho0) hb); have n1_ := Aside0.mk (Kd.R_below (Kd.R_below HO307.out lt_) hb); have n2_ := Aside0.mk (Kd.R_below (Kd.R_below HO311.out lt_) hb); have n3_ := Aside0.mk (Kd.S_lower (Kd.S_new' (Kd.S_new' ho0 (Kd.S_lt (Kd.S_below HO304.out lt_))) (Kd.R_lt (Kd.R_below HO307.out lt_))) (below_size (at_ HB.out))); have n4_ := Aside0.mk (blk_at BK298.out hb); have n5_ := Aside0.mk (below_step (at_ HB.out) hb); clear HO304; clear HO307; clear HO311; clear BK298; clear HB; have HO304 := n0_; have HO307 := n1_; have HO311 := n2_; have HO315 := n3_; have BK298 := n4_; have HB := n5_; clear n0_ n1_ n2_ n3_ n4_ n5_; (try clear hb); (try clear hb2); (try clear hk); (try clear hi); (try clear ho0)) | ((with_reducible refine gate_callee (f := 33) rfl ?_); refine goesL_ (some 41) rfl rfl Try.func33 (by kernel_rfl) rfl #[.slice A2 l2.length c2] rfl (by (try simp only [List.map_toArray, List.map_cons, List.map_nil]); first | done | rfl | (simp only [List.length_drop, List.length_take]; rfl)) ?_; (with_reducible refine (laws_toMarkS.calls k _ _ l2 t316 _ ?side1 ?side2 A24.out).mono ?_); (case side1 => exact Kd.C_below (Kd.C_below HR2.out HB.out) lt_); (case side2 => exact HC2.out); rintro e w139 ⟨v317, rfl, ho0, hb⟩; refine ⟨_, rfl, ?_⟩; have n0_ := Aside0.mk (Kd.S_elder' (Kd.S_below HO304.out lt_) (Kd.R_base ho0) hb); have n1_ := Aside0.mk (Kd.R_elder' (Kd.R_below HO307.out lt_) (Kd.R_base ho0) hb); have n2_ := Aside0.mk (Kd.R_below (Kd.R_below HO311.out lt_) hb); have n3_ := Aside0.mk (Kd.S_elder' (Kd.S_below HO315.out lt_) (Kd.R_base ho0) hb); have n4_ := Aside0.mk (Kd.R_lower (Kd.R_new' ho0 (Kd.R_lt (Kd.R_below HO307.out lt_))) (below_size (at_ HB.out))); have n5_ := Aside0.mk (blk_at BK298.out hb); have n6_ := Aside0.mk (below_step (at_ HB.out) hb); clear HO304; clear HO307; clear HO311; clear HO315; clear BK298; clear HB; have HO304 := n0_; have HO307 := n1_; have HO311 := n2_; have HO315 := n3_; have HO318 := n4_; have BK298 := n5_; have HB := n6_; clear n0_ n1_ n2_ n3_ n4_ n5_ n6_; (try clear hb); (try clear hb2); (try clear hk); (try clear hi); (try clear ho0); have hcz140_0 := blk_cell BK298.out 0; have hcz140_1 := blk_cell BK298.out 1; have hfz140_0 := blk_frozen BK298.out 0; have hfz140_1 := blk_frozen BK298.out 1) | ((with_reducible refine gate_callee (f := 34) rfl ?_); refine goesL_ (some 43) rfl rfl Try.func34 (by kernel_rfl) rfl #[.agg #[.int .i64 a3_0, .slice A3_1 l3_1.length c3_1]] rfl (by (try simp only [List.map_toArray, List.map_cons, List.map_nil]); first | done | rfl | (simp only [List.length_drop, List.length_take]; rfl)) ?_; (with_reducible refine (laws_toProof.calls k a3_0 _ _ l3_1 t319 t320 _ ?side1 ?side2 A25.out).mono ?_); (case side1 => exact Kd.C_below (Kd.C_below HR3_1.out HB.out) lt_); (case side2 => exact HC3_1.out); rintro e w141 ⟨v321, rfl, ho0, hb⟩; refine ⟨_, rfl, ?_⟩; have n0_ := Aside0.mk (Kd.S_below (Kd.S_below HO304.out lt_) hb); have n1_ := Aside0.mk (Kd.R_below (Kd.R_below HO307.out lt_) hb); have n2_ := Aside0.mk (Kd.R_elder' (Kd.R_below HO311.out lt_) (Kd.R_base ho0) hb); have n3_ := Aside0.mk (Kd.S_below (Kd.S_below HO315.out lt_) hb); have n4_ := Aside0.mk (Kd.R_below (Kd.R_below HO318.out lt_) hb); have n5_ := Aside0.mk (Kd.R_lower (Kd.R_new' ho0 (Kd.R_lt (Kd.R_below HO311.out lt_))) (below_size (at_ HB.out))); have n6_ := Aside0.mk (blk_at BK298.out hb); have n7_ := Aside0.mk (below_step (at_ HB.out) hb); clear HO304; clear HO307; clear HO311; clear HO315; clear HO318; clear BK298; clear HB; have HO304 := n0_; have HO307 := n1_; have HO311 := n2_; have HO315 := n3_; have HO318 := n4_; have HO322 := n5_; have BK298 := n6_; have HB := n7_; clear n0_ n1_ n2_ n3_ n4_ n5_ n6_ n7_; (try clear hb); (try clear hb2); (try clear hk); (try clear hi); (try clear ho0)) | ((with_reducible refine gate_dst (N := 13) rfl ?_); refine box_event ?hg (N := 13) ?hd (cs := #[.int .i64 0, .slice none 0 0]) (t := 51) ?hr ?_; (case hd => rfl); (case hg => rfl); (case hr => first | (go_simp; done) | (go_simp; rfl)); intro gb323 hg w142 hbox hb; have n0_ := Aside0.mk (Kd.S_below (Kd.S_below HO304.out lt_) hb); have n1_ := Aside0.mk (Kd.R_below (Kd.R_below HO307.out lt_) hb); have n2_ := Aside0.mk (Kd.R_below (Kd.R_below HO311.out lt_) hb); have n3_ := Aside0.mk (Kd.S_below (Kd.S_below HO315.out lt_) hb); have n4_ := Aside0.mk (Kd.R_below (Kd.R_below HO318.out lt_) hb); have n5_ := Aside0.mk (Kd.R_below (Kd.R_below HO322.out lt_) hb); have n6_ := Aside0.mk (blk_at BK298.out hb); have n7_ := Aside0.mk (below_step (at_ HB.out) hb); have n8_ := Aside0.mk (hbox); have n9_ := Aside0.mk ((by rw [hg]; exact (below_size (at_ HB.out)) : w.heap.size ≤ gb323)); have n10_ := Aside0.mk ((by rw [hg]; exact (below_size (at_ HB.out)) : w.heap.size ≤ gb323)); have n11_ := Aside0.mk ((by rw [hg]; exact Nat.ne_of_lt (blk_lt (g := gb298) (o := .cells #[.int .i64 a3_0, .slice A3_1 l3_1.length c3_1] 57 (0, 0)) (by (with_reducible repeat (first | refine blk_drewN ?_ _ | refine blk_drew ?_ | refine blk_alloc ?_ _)); exact BK298.out)) : gb298 ≠ gb323)); have n12_ := Aside0.mk ((by rw [hg]; exact Nat.ne_of_gt (blk_lt (g := gb298) (o := .cells #[.int .i64 a3_0, .slice A3_1 l3_1.length c3_1] 57 (0, 0)) (by (with_reducible repeat (first | refine blk_drewN ?_ _ | refine blk_drew ?_ | refine blk_alloc ?_ _)); exact BK298.out)) : gb323 ≠ gb298)); clear HO304; clear HO307; clear HO311; clear HO315; clear HO318; clear HO322; clear BK298; clear HB; have HO304 := n0_; have HO307 := n1_; have HO311 := n2_; have HO315 := n3_; have HO318 := n4_; have HO322 := n5_; have BK298 := n6_; have HB := n7_; have BK323 := n8_; have GW323 := n9_; have GE323 := n10_; have NB298_323 := n11_; have NB323_298 := n12_; clear n0_ n1_ n2_ n3_ n4_ n5_ n6_ n7_ n8_ n9_ n10_ n11_ n12_; clear hb hbox hg; have hnb143 := NB323_298.out; have hnc143 := NB298_323.out; have hcz144_0 := blk_cell BK323.out 0; have hcz144_1 := blk_cell BK323.out 1; have hfz144_0 := blk_frozen BK323.out 0; have hfz144_1 := blk_frozen BK323.out 1; obtain ⟨Ao145, co145, eo145⟩ := Kd.R_slice HO322.out; subst eo145; obtain ⟨Ao146, co146, eo146⟩ := Kd.S_slice HO315.out; subst eo146; obtain ⟨Ao147, co147, eo147⟩ := Kd.R_slice HO318.out; subst eo147) | ((with_reducible refine gate_callee (f := 35) rfl ?_); refine goesL_ (some 48) rfl rfl Try.func35 (by kernel_rfl) rfl #[.int .i64 a0, .slice Ao146 t313.length co146, .slice Ao147 t316.length co147, .agg #[.int .i64 t319, .slice Ao145 t320.length co145]] rfl (by (try simp only [List.map_toArray, List.map_cons, List.map_nil]); first | done | rfl | (simp only [List.length_drop, List.length_take]; rfl)) ?_; (with_reducible refine (impl_ProofOk.calls a0 _ _ t313 _ _ t316 t319 _ _ t320 t324 _ ?side1 ?side2 ?side3 ?side4 ?side5 ?side6 A26.out).mono ?_); (case side1 => refine (Kd.S_reads' (e := 38) (base := w.heap.size) (ok := fun k_ => (((True ∧ some k_ ≠ (.slice Ao134 t302.length co134 : Value).ownBlock) ∧ some k_ ≠ (.slice Ao135 t305.length co135 : Value).ownBlock) ∧ some k_ ≠ (.slice Ao147 t316.length co147 : Value).ownBlock)) (n := t313.length) (c := co146) ?_).2.2; exact (by (with_reducible repeat (first | apply Kd.S_alloc | apply Kd.S_drewN | apply Kd.S_drew)); exact (Kd.S_mono (Kd.S_far (p := ⟨gb323, 1, none⟩) (Kd.S_far (p := ⟨gb323, 0, none⟩) (Kd.S_types HO315.out BK323.out (by decide)) (fun _ hk => hk.2) (.int .i64 t319)) (fun _ hk => hk.2) (.slice Ao145 t320.length co145)) (fun _ h_ => h_.1)))); (case side2 => exact (Kd.S_reads' HO315.out).2.1); (case side3 => refine (Kd.R_reads' (e := 47) (base := w.heap.size) (ok := fun k_ => (True ∧ some k_ ≠ (.slice Ao135 t305.length co135 : Value).ownBlock)) (n := t316.length) (c := co147) ?_).2.2; exact (by (with_reducible repeat (first | apply Kd.R_alloc | apply Kd.R_drewN | apply Kd.R_drew)); exact (Kd.R_mono (Kd.R_far (p := ⟨gb323, 1, none⟩) (Kd.R_far (p := ⟨gb323, 0, none⟩) (Kd.R_types HO318.out BK323.out (by decide)) (fun _ hk => hk.2) (.int .i64 t319)) (fun _ hk => hk.2) (.slice Ao145 t320.length co145)) (fun _ h_ => h_.1)))); (case side4 => exact (Kd.R_reads' HO318.out).2.1); (case side5 => refine (Kd.R_reads' (e := 93) (base := w.heap.size) (ok := fun k_ => (True ∧ some k_ ≠ (.slice Ao136 t309.length co136 : Value).ownBlock)) (n := t320.length) (c := co145) ?_).2.2; exact (by (with_reducible repeat (first | apply Kd.R_alloc | apply Kd.R_drewN | apply Kd.R_drew)); exact (Kd.R_mono (Kd.R_far (p := ⟨gb323, 1, none⟩) (Kd.R_far (p := ⟨gb323, 0, none⟩) (Kd.R_types HO322.out BK323.out (by decide)) (fun _ hk => hk.2) (.int .i64 t319)) (fun _ hk => hk.2) (.slice Ao145 t320.length co145)) (fun _ h_ => h_.1)))); (case side6 => exact (Kd.R_reads' HO322.out).2.1); rintro e w148 ⟨rfl, hb⟩; refine ⟨_, rfl, ?_⟩; have n0_ := Aside0.mk (Kd.S_below (by (with_reducible repeat (first | apply Kd.S_alloc | apply Kd.S_drewN | apply Kd.S_drew)); exact (Kd.S_mono (Kd.S_far (p := ⟨gb323, 1, none⟩) (Kd.S_far (p := ⟨gb323, 0, none⟩) (Kd.S_types HO304.out BK323.out (by decide)) (fun _ hk => hk.2) (.int .i64 t319)) (fun _ hk => hk.2) (.slice Ao145 t320.length co145)) (fun _ h_ => h_.1))) hb); have n1_ := Aside0.mk (Kd.R_below (by (with_reducible repeat (first | apply Kd.R_alloc | apply Kd.R_drewN | apply Kd.R_drew)); exact (Kd.R_mono (Kd.R_far (p := ⟨gb323, 1, none⟩) (Kd.R_far (p := ⟨gb323, 0, none⟩) (Kd.R_types HO307.out BK323.out (by decide)) (fun _ hk => hk.2) (.int .i64 t319)) (fun _ hk => hk.2) (.slice Ao145 t320.length co145)) (fun _ h_ => h_.1))) hb); have n2_ := Aside0.mk (Kd.R_below (by (with_reducible repeat (first | apply Kd.R_alloc | apply Kd.R_drewN | apply Kd.R_drew)); exact (Kd.R_mono (Kd.R_far (p := ⟨gb323, 1, none⟩) (Kd.R_far (p := ⟨gb323, 0, none⟩) (Kd.R_types HO311.out BK323.out (by decide)) (fun _ hk => hk.2) (.int .i64 t319)) (fun _ hk => hk.2) (.slice Ao145 t320.length co145)) (fun _ h_ => h_.1))) hb); have n3_ := Aside0.mk (Kd.S_below (by (with_reducible repeat (first | apply Kd.S_alloc | apply Kd.S_drewN | apply Kd.S_drew)); exact (Kd.S_mono (Kd.S_far (p := ⟨gb323, 1, none⟩) (Kd.S_far (p := ⟨gb323, 0, none⟩) (Kd.S_types HO315.out BK323.out (by decide)) (fun _ hk => hk.2) (.int .i64 t319)) (fun _ hk => hk.2) (.slice Ao145 t320.length co145)) (fun _ h_ => h_.1))) hb); have n4_ := Aside0.mk (Kd.R_below (by (with_reducible repeat (first | apply Kd.R_alloc | apply Kd.R_drewN | apply Kd.R_drew)); exact (Kd.R_mono (Kd.R_far (p := ⟨gb323, 1, none⟩) (Kd.R_far (p := ⟨gb323, 0, none⟩) (Kd.R_types HO318.out BK323.out (by decide)) (fun _ hk => hk.2) (.int .i64 t319)) (fun _ hk => hk.2) (.slice Ao145 t320.length co145)) (fun _ h_ => h_.1))) hb); have n5_ := Aside0.mk (Kd.R_below (by (with_reducible repeat (first | apply Kd.R_alloc | apply Kd.R_drewN | apply Kd.R_drew)); exact (Kd.R_mono (Kd.R_far (p := ⟨gb323, 1, none⟩) (Kd.R_far (p := ⟨gb323, 0, none⟩) (Kd.R_types HO322.out BK323.out (by decide)) (fun _ hk => hk.2) (.int .i64 t319)) (fun _ hk => hk.2) (.slice Ao145 t320.length co145)) (fun _ h_ => h_.1))) hb); have n6_ := Aside0.mk (blk_below (g := gb298) (o := .cells #[.int .i64 a3_0, .slice A3_1 l3_1.length c3_1] 57 (0, 0)) (by (with_reducible repeat (first | refine blk_drewN ?_ _ | refine blk_drew ?_ | refine blk_alloc ?_ _)); refine blk_far ?_ NB298_323.out _; (with_reducible repeat (first | refine blk_drewN ?_ _ | refine blk_drew ?_ | refine blk_alloc ?_ _)); refine blk_far ?_ NB298_323.out _; (with_reducible repeat (first | refine blk_drewN ?_ _ | refine blk_drew ?_ | refine blk_alloc ?_ _)); exact BK298.out) hb); have n7_ := Aside0.mk (blk_below (g := gb323) (o := .cells #[.int .i64 t319, .slice Ao145 t320.length co145] 51 (0, 0)) (by (with_reducible repeat (first | refine blk_drewN ?_ _ | refine blk_drew ?_ | refine blk_alloc ?_ _)); refine blk_put (cs := #[.int .i64 t319, .slice none 0 0]) ?_ 1 _ rfl; (with_reducible repeat (first | refine blk_drewN ?_ _ | refine blk_drew ?_ | refine blk_alloc ?_ _)); refine blk_put (cs := #[.int .i64 0, .slice none 0 0]) ?_ 0 _ rfl; (with_reducible repeat (first | refine blk_drewN ?_ _ | refine blk_drew ?_ | refine blk_alloc ?_ _)); exact BK323.out) hb); have n8_ := Aside0.mk (below_step (at_ HB.out) hb); clear HO304; clear HO307; clear HO311; clear HO315; clear HO318; clear HO322; clear BK298; clear BK323; clear HB; have HO304 := n0_; have HO307 := n1_; have HO311 := n2_; have HO315 := n3_; have HO318 := n4_; have HO322 := n5_; have BK298 := n6_; have BK323 := n7_; have HB := n8_; clear n0_ n1_ n2_ n3_ n4_ n5_ n6_ n7_ n8_; (try clear hb); (try clear hb2); (try clear hk); (try clear hi)) | ((with_reducible refine gate_callee (f := 14) rfl ?_); refine goesL_ (some 54) rfl rfl Try.func14 (by kernel_rfl) rfl #[.slice A1 l1.length c1] rfl (by (try simp only [List.map_toArray, List.map_cons, List.map_nil]); first | done | rfl | (simp only [List.length_drop, List.length_take]; rfl)) ?_; (with_reducible refine (laws_toClaimS.calls k _ _ l1 t325 _ ?side1 ?side2 A51.out).mono ?_); (case side1 => exact Kd.C_below (Kd.C_below HR1.out HB.out) lt_); (case side2 => exact HC1.out); rintro e w149 ⟨v326, rfl, ho0, hb⟩; refine ⟨_, rfl, ?_⟩; have n0_ := Aside0.mk (Kd.S_elder' (Kd.S_below HO304.out lt_) (Kd.S_base ho0) hb); have n1_ := Aside0.mk (Kd.R_below (Kd.R_below HO307.out lt_) hb); have n2_ := Aside0.mk (Kd.R_below (Kd.R_below HO311.out lt_) hb); have n3_ := Aside0.mk (Kd.S_elder' (Kd.S_below HO315.out lt_) (Kd.S_base ho0) hb); have n4_ := Aside0.mk (Kd.R_below (Kd.R_below HO318.out lt_) hb); have n5_ := Aside0.mk (Kd.R_below (Kd.R_below HO322.out lt_) hb); have n6_ := Aside0.mk (Kd.S_lower (Kd.S_new' (Kd.S_new' (Kd.S_new' (Kd.S_new' ho0 (Kd.S_lt (Kd.S_below HO304.out lt_))) (Kd.R_lt (Kd.R_below HO307.out lt_))) (Kd.S_lt (Kd.S_below HO315.out lt_))) (Kd.R_lt (Kd.R_below HO318.out lt_))) (below_size (at_ HB.out))); have n7_ := Aside0.mk (blk_at BK298.out hb); have n8_ := Aside0.mk (blk_at BK323.out hb); have n9_ := Aside0.mk (below_step (at_ HB.out) hb); clear HO304; clear HO307; clear HO311; clear HO315; clear HO318; clear HO322; clear BK298; clear BK323; clear HB; have HO304 := n0_; have HO307 := n1_; have HO311 := n2_; have HO315 := n3_; have HO318 := n4_; have HO322 := n5_; have HO327 := n6_; have BK298 := n7_; have BK323 := n8_; have HB := n9_; clear n0_ n1_ n2_ n3_ n4_ n5_ n6_ n7_ n8_ n9_; (try clear hb); (try clear hb2); (try clear hk); (try clear hi); (try clear ho0); obtain ⟨Ao150, co150, eo150⟩ := Kd.S_slice HO327.out; subst eo150) | ((with_reducible refine gate_callee (f := 16) rfl ?_); refine goesL_ (some 55) rfl rfl Try.func16 (by kernel_rfl) rfl #[.slice Ao146 t313.length co146, .slice Ao150 t325.length co150] rfl (by (try simp only [List.map_toArray, List.map_cons, List.map_nil]); first | done | rfl | (simp only [List.length_drop, List.length_take]; rfl)) ?_; (with_reducible refine (laws_eqClaimS.calls k _ _ t313 _ _ t325 true _ ?side1 ?side2 ?side3 ?side4 A52.out).mono ?_); (case side1 => exact Kd.C_below (Kd.S_reads' HO315.out).2.2 lt_); (case side2 => exact (Kd.S_reads' HO315.out).2.1); (case side3 => exact Kd.C_below (Kd.S_reads' HO327.out).2.2 lt_); (case side4 => exact (Kd.S_reads' HO327.out).2.1); rintro e w151 ⟨rfl, hb⟩; refine ⟨_, rfl, ?_⟩; have n0_ := Aside0.mk (Kd.S_below (Kd.S_below HO304.out lt_) hb); have n1_ := Aside0.mk (Kd.R_below (Kd.R_below HO307.out lt_) hb); have n2_ := Aside0.mk (Kd.R_below (Kd.R_below HO311.out lt_) hb); have n3_ := Aside0.mk (Kd.S_below (Kd.S_below HO315.out lt_) hb); have n4_ := Aside0.mk (Kd.R_below (Kd.R_below HO318.out lt_) hb); have n5_ := Aside0.mk (Kd.R_below (Kd.R_below HO322.out lt_) hb); have n6_ := Aside0.mk (Kd.S_below (Kd.S_below HO327.out lt_) hb); have n7_ := Aside0.mk (blk_at BK298.out hb); have n8_ := Aside0.mk (blk_at BK323.out hb); have n9_ := Aside0.mk (below_step (at_ HB.out) hb); clear HO304; clear HO307; clear HO311; clear HO315; clear HO318; clear HO322; clear HO327; clear BK298; clear BK323; clear HB; have HO304 := n0_; have HO307 := n1_; have HO311 := n2_; have HO315 := n3_; have HO318 := n4_; have HO322 := n5_; have HO327 := n6_; have BK298 := n7_; have BK323 := n8_; have HB := n9_; clear n0_ n1_ n2_ n3_ n4_ n5_ n6_ n7_ n8_ n9_; (try clear hb); (try clear hb2); (try clear hk); (try clear hi)) | ((with_reducible refine gate_callee (f := 33) rfl ?_); refine goesL_ (some 59) rfl rfl Try.func33 (by kernel_rfl) rfl #[.slice A2 l2.length c2] rfl (by (try simp only [List.map_toArray, List.map_cons, List.map_nil]); first | done | rfl | (simp only [List.length_drop, List.length_take]; rfl)) ?_; (with_reducible refine (laws_toMarkS.calls k _ _ l2 t329 _ ?side1 ?side2 A54.out).mono ?_); (case side1 => exact Kd.C_below (Kd.C_below HR2.out HB.out) lt_); (case side2 => exact HC2.out); rintro e w152 ⟨v330, rfl, ho0, hb⟩; refine ⟨_, rfl, ?_⟩; have n0_ := Aside0.mk (Kd.S_elder' (Kd.S_below HO304.out lt_) (Kd.R_base ho0) hb); have n1_ := Aside0.mk (Kd.R_elder' (Kd.R_below HO307.out lt_) (Kd.R_base ho0) hb); have n2_ := Aside0.mk (Kd.R_below (Kd.R_below HO311.out lt_) hb); have n3_ := Aside0.mk (Kd.S_elder' (Kd.S_below HO315.out lt_) (Kd.R_base ho0) hb); have n4_ := Aside0.mk (Kd.R_elder' (Kd.R_below HO318.out lt_) (Kd.R_base ho0) hb); have n5_ := Aside0.mk (Kd.R_below (Kd.R_below HO322.out lt_) hb); have n6_ := Aside0.mk (Kd.S_elder' (Kd.S_below HO327.out lt_) (Kd.R_base ho0) hb); have n7_ := Aside0.mk (Kd.R_lower (Kd.R_new' (Kd.R_new' ho0 (Kd.R_lt (Kd.R_below HO307.out lt_))) (Kd.R_lt (Kd.R_below HO318.out lt_))) (below_size (at_ HB.out))); have n8_ := Aside0.mk (blk_at BK298.out hb); have n9_ := Aside0.mk (blk_at BK323.out hb); have n10_ := Aside0.mk (below_step (at_ HB.out) hb); clear HO304; clear HO307; clear HO311; clear HO315; clear HO318; clear HO322; clear HO327; clear BK298; clear BK323; clear HB; have HO304 := n0_; have HO307 := n1_; have HO311 := n2_; have HO315 := n3_; have HO318 := n4_; have HO322 := n5_; have HO327 := n6_; have HO331 := n7_; have BK298 := n8_; have BK323 := n9_; have HB := n10_; clear n0_ n1_ n2_ n3_ n4_ n5_ n6_ n7_ n8_ n9_ n10_; (try clear hb); (try clear hb2); (try clear hk); (try clear hi); (try clear ho0); obtain ⟨Ao153, co153, eo153⟩ := Kd.R_slice HO331.out; subst eo153) | ((with_reducible refine gate_callee (f := 36) rfl ?_); refine goesL_ (some 60) rfl rfl Try.func36 (by kernel_rfl) rfl #[.slice Ao147 t316.length co147, .slice Ao153 t329.length co153] rfl (by (try simp only [List.map_toArray, List.map_cons, List.map_nil]); first | done | rfl | (simp only [List.length_drop, List.length_take]; rfl)) ?_; (with_reducible refine (laws_eqMarkS.calls k _ _ t316 _ _ t329 false _ ?side1 ?side2 ?side3 ?side4 A55.out).mono ?_); (case side1 => exact Kd.C_below (Kd.R_reads' HO318.out).2.2 lt_); (case side2 => exact (Kd.R_reads' HO318.out).2.1); (case side3 => exact Kd.C_below (Kd.R_reads' HO331.out).2.2 lt_); (case side4 => exact (Kd.R_reads' HO331.out).2.1); rintro e w154 ⟨rfl, hb⟩; refine ⟨_, rfl, ?_⟩; have n0_ := Aside0.mk (Kd.S_below (Kd.S_below HO304.out lt_) hb); have n1_ := Aside0.mk (Kd.R_below (Kd.R_below HO307.out lt_) hb); have n2_ := Aside0.mk (Kd.R_below (Kd.R_below HO311.out lt_) hb); have n3_ := Aside0.mk (Kd.S_below (Kd.S_below HO315.out lt_) hb); have n4_ := Aside0.mk (Kd.R_below (Kd.R_below HO318.out lt_) hb); have n5_ := Aside0.mk (Kd.R_below (Kd.R_below HO322.out lt_) hb); have n6_ := Aside0.mk (Kd.S_below (Kd.S_below HO327.out lt_) hb); have n7_ := Aside0.mk (Kd.R_below (Kd.R_below HO331.out lt_) hb); have n8_ := Aside0.mk (blk_at BK298.out hb); have n9_ := Aside0.mk (blk_at BK323.out hb); have n10_ := Aside0.mk (below_step (at_ HB.out) hb); clear HO304; clear HO307; clear HO311; clear HO315; clear HO318; clear HO322; clear HO327; clear HO331; clear BK298; clear BK323; clear HB; have HO304 := n0_; have HO307 := n1_; have HO311 := n2_; have HO315 := n3_; have HO318 := n4_; have HO322 := n5_; have HO327 := n6_; have HO331 := n7_; have BK298 := n8_; have BK323 := n9_; have HB := n10_; clear n0_ n1_ n2_ n3_ n4_ n5_ n6_ n7_ n8_ n9_ n10_; (try clear hb); (try clear hb2); (try clear hk); (try clear hi)))
       go_ret
       exact ⟨by first | rfl | (simp [errW_none, errW_some] <;> rfl) | (simp [*, errW_none, errW_some] <;> rfl), at_ HB.out⟩
     ·replace c53 := Bool.eq_false_iff.mpr c53
      subst c53
      rw [if_neg (show ¬ (false = true) by decide)] at H
      obtain rfl := Option.some.inj H
      go_enter Try.func8, Try.ntmps8
      try go_wp2_with (first | ((with_reducible refine gate_dst (N := 7) rfl ?_); refine box_event ?hg (N := 7) ?hd (cs := #[.int .i64 a3_0, .slice A3_1 l3_1.length c3_1]) (t := 57) ?hr ?_; (case hd => rfl); (case hg => rfl); (case hr => first | (go_simp; done) | (go_simp; rfl)); intro gb298 hg w155 hbox hb; have n0_ := Aside0.mk (below_step (below_at HB.out) hb); have n1_ := Aside0.mk (hbox); have n2_ := Aside0.mk ((by rw [hg]; exact (below_size (below_at HB.out)) : w.heap.size ≤ gb298)); have n3_ := Aside0.mk ((by rw [hg]; exact (below_size (below_at HB.out)) : w.heap.size ≤ gb298)); clear HB; have HB := n0_; have BK298 := n1_; have GW298 := n2_; have GE298 := n3_; clear n0_ n1_ n2_ n3_; clear hb hbox hg) | ((with_reducible refine gate_callee (f := 12) rfl ?_); refine goesL_ (some 17) rfl rfl Try.func12 (by kernel_rfl) rfl #[.slice A1 l1.length c1, .int .i64 1048576] rfl (by (try simp only [List.map_toArray, List.map_cons, List.map_nil]); first | done | rfl | (simp only [List.length_drop, List.length_take]; rfl)) ?_; (with_reducible refine (laws_szClaimS.calls k _ _ l1 1048576 t299 _ ?side1 ?side2 A5.out).mono ?_); (case side1 => exact Kd.C_below (Kd.C_below HR1.out HB.out) lt_); (case side2 => exact HC1.out); rintro e w156 ⟨rfl, hb⟩; refine ⟨_, rfl, ?_⟩; have n0_ := Aside0.mk (blk_at BK298.out hb); have n1_ := Aside0.mk (below_step (at_ HB.out) hb); clear BK298; clear HB; have BK298 := n0_; have HB := n1_; clear n0_ n1_; (try clear hb); (try clear hb2); (try clear hk); (try clear hi)) | ((with_reducible refine gate_callee (f := 30) rfl ?_); refine goesL_ (some 22) rfl rfl Try.func30 (by kernel_rfl) rfl #[.slice A2 l2.length c2, .int .i64 t299] rfl (by (try simp only [List.map_toArray, List.map_cons, List.map_nil]); first | done | rfl | (simp only [List.length_drop, List.length_take]; rfl)) ?_; (with_reducible refine (laws_szMarkS.calls _ _ l2 t299 t300 _ ?side1 ?side2 A9.out).mono ?_); (case side1 => exact Kd.C_below (Kd.C_below HR2.out HB.out) lt_); (case side2 => exact HC2.out); rintro e w' ⟨rfl, ⟨nd, rfl⟩⟩; refine ⟨_, rfl, ?_⟩; (try (rw [drewN_self w156]; generalize hq_ : World.drewN w156 _ = w156; have n0_ : Aside0 (w156.heap[gb298]? = some (.cells #[.int .i64 a3_0, .slice A3_1 l3_1.length c3_1] 57 (0, 0))) := ⟨by rw [← hq_]; exact (by (with_reducible repeat (first | refine blk_drewN ?_ _ | refine blk_drew ?_ | refine blk_alloc ?_ _)); exact BK298.out)⟩; have n1_ : Aside0 (Below w.heap.size w w156) := ⟨by rw [← hq_]; exact (at_ HB.out)⟩; clear BK298 HB hq_; have BK298 := n0_; have HB := n1_; clear n0_ n1_)); have hcz157_0 := blk_cell BK298.out 0; have hcz157_1 := blk_cell BK298.out 1; have hfz157_0 := blk_frozen BK298.out 0; have hfz157_1 := blk_frozen BK298.out 1) | ((with_reducible refine gate_callee (f := 31) rfl ?_); refine goesL_ (some 27) rfl rfl Try.func31 (by kernel_rfl) rfl #[.agg #[.int .i64 a3_0, .slice A3_1 l3_1.length c3_1], .int .i64 t300] rfl (by (try simp only [List.map_toArray, List.map_cons, List.map_nil]); first | done | rfl | (simp only [List.length_drop, List.length_take]; rfl)) ?_; (with_reducible refine (laws_szProof.calls a3_0 _ _ l3_1 t300 t301 _ ?side1 ?side2 A13.out).mono ?_); (case side1 => exact Kd.C_below (Kd.C_below HR3_1.out HB.out) lt_); (case side2 => exact HC3_1.out); rintro e w158 ⟨rfl, hb⟩; refine ⟨_, rfl, ?_⟩; have n0_ := Aside0.mk (blk_at BK298.out hb); have n1_ := Aside0.mk (below_step (at_ HB.out) hb); clear BK298; clear HB; have BK298 := n0_; have HB := n1_; clear n0_ n1_; (try clear hb); (try clear hb2); (try clear hk); (try clear hi)))
      have n0_ := Aside0.mk (blk_drew BK298.out)
      have n1_ := Aside0.mk (below_drew1 HB.out)
      clear BK298
      clear HB
      have BK298 := n0_
      have HB := n1_
      clear n0_ n1_
      refine start_ (n := 9) (S := fun w' => w'.cell? ⟨gb298, 0, none⟩ = some (.int .i64 a3_0) ∧ w'.cell? ⟨gb298, 1, none⟩ = some (.slice A3_1 l3_1.length c3_1)) (ds := []) #[false, false, false, false, false, false, false, false, false] (by kernel_rfl) rfl rfl ⟨(blk_cell BK298.out 0).trans rfl, (blk_cell BK298.out 1).trans rfl⟩ (fun hHeld => ?_); refine with_tabW laws_FnExactProofOk.tab11 laws_FnExactProofOk.bits11 (fun HT_ HW_ => ?_)
      generalize w158.drew = w159 at BK298 HB hHeld ⊢
      refine pure_ (i := 0) (N := some 30) (v := ?_) (a' := ?_) #[true, false, false, false, false, false, false, false, false] rfl rfl (any_of HT_.out (by kernel_rfl)) (fun _ _ _ h => h) (Or.inl ⟨by rfl, ?_⟩) ?_ ?_
      rotate_left
      ·intro w'
       go_simp
       with_reducible rfl
      rotate_left
      ·simp only [Act.put, z0_, z1_, z2_, i64_w, i32_w]
       rfl
      refine pure_ (i := 1) (N := some 31) (v := ?_) (a' := ?_) #[true, true, false, false, false, false, false, false, false] rfl rfl (any_of HT_.out (by kernel_rfl)) (fun _ _ _ h => h) (Or.inl ⟨by rfl, ?_⟩) ?_ ?_
      rotate_left
      ·intro w'
       go_simp
       with_reducible rfl
      rotate_left
      ·simp only [Act.put, z0_, z1_, z2_, i64_w, i32_w]
       rfl
      refine pure_ (i := 3) (N := some 33) (v := ?_) (a' := ?_) #[true, true, false, true, false, false, false, false, false] rfl rfl (any_of HT_.out (by kernel_rfl)) (fun _ _ _ h => h) (Or.inl ⟨by rfl, ?_⟩) ?_ ?_
      rotate_left
      ·intro w'
       go_simp
       with_reducible rfl
      rotate_left
      ·simp only [Act.put, z0_, z1_, z2_, i64_w, i32_w]
       rfl
      refine take_ (i := 5) (N := some 35) (v := ?_) (a' := ?_) #[true, true, false, true, false, true, false, false, false] rfl rfl (take_ofW HT_.out HW_.out (by kernel_rfl)) (fun _ _ _ h => h) (Or.inl ⟨by rfl, ?_⟩) hHeld ?_ ?_
      rotate_left
      ·rintro w' ⟨s0, s1⟩
       go_simp
       with_reducible rfl
      rotate_left
      ·simp only [Act.put, z0_, z1_, z2_, i64_w, i32_w]
       rfl
      refine one_ (i := 2) (N := some 32) #[true, true, true, true, false, true, false, false, false] rfl rfl (one_of HT_.out (by kernel_rfl)) (by decide) (fun K hK => ?_)
      refine goes_ Try.func14 (by kernel_rfl) rfl #[.slice A1 l1.length c1] (by rfl) rfl rfl (by (try simp only [List.map_toArray, List.map_cons, List.map_nil]); first | done | rfl | (simp only [List.length_drop, List.length_take]; rfl)) ?_
      with_reducible refine (laws_toClaimS.calls k _ _ l1 t302 _ ?side1 ?side2 A19.out).mono ?_
      (case side1 => exact Kd.C_below (Kd.C_below HR1.out HB.out) lt_)
      (case side2 => exact HC1.out)
      rintro e w160 ⟨v303, rfl, ho0, hb⟩
      refine ⟨_, rfl, ?_⟩
      have n0_ := Aside0.mk (Kd.S_lower ho0 (below_size (at_ HB.out)))
      have n1_ := Aside0.mk (blk_at BK298.out hb)
      have n2_ := Aside0.mk (below_step (at_ HB.out) hb)
      clear BK298
      clear HB
      have HO304 := n0_
      have BK298 := n1_
      have HB := n2_
      clear n0_ n1_ n2_
      (try clear hb)
      (try clear hb2)
      (try clear hk)
      (try clear hi)
      (try clear ho0)
      refine hK.out _ _ ⟨(blk_cell BK298.out 0).trans rfl, (blk_cell BK298.out 1).trans rfl⟩ (fun hHeld => ?_)
      clear hK K
      refine norm_ (a' := ?_) ?_ ?_
      rotate_left
      ·show Act.put _ (some 32) _ = _
       simp only [Act.put, z0_, z1_, z2_, i64_w, i32_w]
       rfl
      refine one_ (i := 4) (N := some 34) #[true, true, true, true, true, true, false, false, false] rfl rfl (one_of HT_.out (by kernel_rfl)) (by decide) (fun K hK => ?_)
      refine goes_ Try.func33 (by kernel_rfl) rfl #[.slice A2 l2.length c2] (by rfl) rfl rfl (by (try simp only [List.map_toArray, List.map_cons, List.map_nil]); first | done | rfl | (simp only [List.length_drop, List.length_take]; rfl)) ?_
      with_reducible refine (laws_toMarkS.calls k _ _ l2 t305 _ ?side1 ?side2 A20.out).mono ?_
      (case side1 => exact Kd.C_below (Kd.C_below HR2.out HB.out) lt_)
      (case side2 => exact HC2.out)
      rintro e w161 ⟨v306, rfl, ho0, hb⟩
      refine ⟨_, rfl, ?_⟩
      have n0_ := Aside0.mk (Kd.S_elder' (Kd.S_below HO304.out lt_) (Kd.R_base ho0) hb)
      have n1_ := Aside0.mk (Kd.R_lower ho0 (below_size (at_ HB.out)))
      have n2_ := Aside0.mk (blk_at BK298.out hb)
      have n3_ := Aside0.mk (below_step (at_ HB.out) hb)
      clear HO304
      clear BK298
      clear HB
      have HO304 := n0_
      have HO307 := n1_
      have BK298 := n2_
      have HB := n3_
      clear n0_ n1_ n2_ n3_
      (try clear hb)
      (try clear hb2)
      (try clear hk)
      (try clear hi)
      (try clear ho0)
      refine hK.out _ _ ⟨(blk_cell BK298.out 0).trans rfl, (blk_cell BK298.out 1).trans rfl⟩ (fun hHeld => ?_)
      clear hK K
      refine norm_ (a' := ?_) ?_ ?_
      rotate_left
      ·show Act.put _ (some 34) _ = _
       simp only [Act.put, z0_, z1_, z2_, i64_w, i32_w]
       rfl
      refine one_ (i := 6) (N := some 36) #[true, true, true, true, true, true, true, false, false] rfl rfl (one_of HT_.out (by kernel_rfl)) (by decide) (fun K hK => ?_)
      refine goes_ Try.func34 (by kernel_rfl) rfl #[.agg #[.int .i64 a3_0, .slice A3_1 l3_1.length c3_1]] (by rfl) rfl rfl (by (try simp only [List.map_toArray, List.map_cons, List.map_nil]); first | done | rfl | (simp only [List.length_drop, List.length_take]; rfl)) ?_
      with_reducible refine (laws_toProof.calls k a3_0 _ _ l3_1 t308 t309 _ ?side1 ?side2 A21.out).mono ?_
      (case side1 => exact Kd.C_below (Kd.C_below HR3_1.out HB.out) lt_)
      (case side2 => exact HC3_1.out)
      rintro e w162 ⟨v310, rfl, ho0, hb⟩
      refine ⟨_, rfl, ?_⟩
      have n0_ := Aside0.mk (Kd.S_below (Kd.S_below HO304.out lt_) hb)
      have n1_ := Aside0.mk (Kd.R_below (Kd.R_below HO307.out lt_) hb)
      have n2_ := Aside0.mk (Kd.R_lower ho0 (below_size (at_ HB.out)))
      have n3_ := Aside0.mk (blk_at BK298.out hb)
      have n4_ := Aside0.mk (below_step (at_ HB.out) hb)
      clear HO304
      clear HO307
      clear BK298
      clear HB
      have HO304 := n0_
      have HO307 := n1_
      have HO311 := n2_
      have BK298 := n3_
      have HB := n4_
      clear n0_ n1_ n2_ n3_ n4_
      (try clear hb)
      (try clear hb2)
      (try clear hk)
      (try clear hi)
      (try clear ho0)
      obtain ⟨Ao163, co163, eo163⟩ := Kd.S_slice HO304.out
      (first | subst eo163 | (injection eo163 with f1_ f2_ f3_; have f4_ := f1_.symm; have f5_ := f3_.symm; clear f1_ f2_ f3_; subst f4_; subst f5_))
      obtain ⟨Ao164, co164, eo164⟩ := Kd.R_slice HO307.out
      (first | subst eo164 | (injection eo164 with f1_ f2_ f3_; have f4_ := f1_.symm; have f5_ := f3_.symm; clear f1_ f2_ f3_; subst f4_; subst f5_))
      obtain ⟨Ao165, co165, eo165⟩ := Kd.R_slice HO311.out
      (first | subst eo165 | (injection eo165 with f1_ f2_ f3_; have f4_ := f1_.symm; have f5_ := f3_.symm; clear f1_ f2_ f3_; subst f4_; subst f5_))
      refine hK.out _ _ ⟨(blk_cell BK298.out 0).trans rfl, (blk_cell BK298.out 1).trans rfl⟩ (fun hHeld => ?_)
      clear hK K
      refine norm_ (a' := ?_) ?_ ?_
      rotate_left
      ·show Act.put _ (some 36) _ = _
       simp only [Act.put, z0_, z1_, z2_, i64_w, i32_w]
       rfl
      refine one_ (i := 7) (N := some 37) #[true, true, true, true, true, true, true, true, false] rfl rfl (one_of HT_.out (by kernel_rfl)) (by decide) (fun K hK => ?_)
      refine goes_ Try.func32 (by kernel_rfl) rfl #[.int .i64 a0, .slice Ao163 t302.length co163, .slice Ao164 t305.length co164, .agg #[.int .i64 t308, .slice Ao165 t309.length co165]] (by rfl) rfl rfl (by (try simp only [List.map_toArray, List.map_cons, List.map_nil]); first | done | rfl | (simp only [List.length_drop, List.length_take]; rfl)) ?_
      with_reducible refine (spec_ProofOk.calls k a0 _ _ t302 _ _ t305 t308 _ _ t309 t312 _ ?side1 ?side2 ?side3 ?side4 ?side5 ?side6 A22.out).mono ?_
      (case side1 => exact Kd.C_below (Kd.S_reads' HO304.out).2.2 lt_)
      (case side2 => exact (Kd.S_reads' HO304.out).2.1)
      (case side3 => exact Kd.C_below (Kd.R_reads' HO307.out).2.2 lt_)
      (case side4 => exact (Kd.R_reads' HO307.out).2.1)
      (case side5 => exact Kd.C_below (Kd.R_reads' HO311.out).2.2 lt_)
      (case side6 => exact (Kd.R_reads' HO311.out).2.1)
      rintro e w166 ⟨rfl, hb⟩
      refine ⟨_, rfl, ?_⟩
      have n0_ := Aside0.mk (Kd.S_below (Kd.S_below HO304.out lt_) hb)
      have n1_ := Aside0.mk (Kd.R_below (Kd.R_below HO307.out lt_) hb)
      have n2_ := Aside0.mk (Kd.R_below (Kd.R_below HO311.out lt_) hb)
      have n3_ := Aside0.mk (blk_at BK298.out hb)
      have n4_ := Aside0.mk (below_step (at_ HB.out) hb)
      clear HO304
      clear HO307
      clear HO311
      clear BK298
      clear HB
      have HO304 := n0_
      have HO307 := n1_
      have HO311 := n2_
      have BK298 := n3_
      have HB := n4_
      clear n0_ n1_ n2_ n3_ n4_
      (try clear hb)
      (try clear hb2)
      (try clear hk)
      (try clear hi)
      refine hK.out _ _ ⟨(blk_cell BK298.out 0).trans rfl, (blk_cell BK298.out 1).trans rfl⟩ (fun hHeld => ?_)
      clear hK K
      refine norm_ (a' := ?_) ?_ ?_
      rotate_left
      ·show Act.put _ (some 37) _ = _
       simp only [Act.put, z0_, z1_, z2_, i64_w, i32_w]
       rfl
      refine pure_ (i := 8) (N := some 10) (v := ?_) (a' := ?_) #[true, true, true, true, true, true, true, true, true] rfl rfl (any_of HT_.out (by kernel_rfl)) (fun _ _ _ h => h) (Or.inl ⟨by rfl, ?_⟩) ?_ ?_
      rotate_left
      ·intro w'
       go_simp
       with_reducible rfl
      rotate_left
      ·simp only [Act.put, z0_, z1_, z2_, i64_w, i32_w]
       rfl
      refine done_ (done_of HT_.out (by kernel_rfl)) ?_
      try go_wp2_with (first | ((with_reducible refine gate_callee (f := 14) rfl ?_); refine goesL_ (some 39) rfl rfl Try.func14 (by kernel_rfl) rfl #[.slice A1 l1.length c1] rfl (by (try simp only [List.map_toArray, List.map_cons, List.map_nil]); first | done | rfl | (simp only [List.length_drop, List.length_take]; rfl)) ?_; (with_reducible refine (laws_toClaimS.calls k _ _ l1 t313 _ ?side1 ?side2 A23.out).mono ?_); (case side1 => exact Kd.C_below (Kd.C_below HR1.out HB.out) lt_); (case side2 => exact HC1.out); rintro e w167 ⟨v314, rfl, ho0, hb⟩; refine ⟨_, rfl, ?_⟩; have n0_ := Aside0.mk (Kd.S_elder' (Kd.S_below HO304.out lt_) (Kd.S_base ho0) hb); have n1_ := Aside0.mk (Kd.R_below (Kd.R_below HO307.out lt_) hb); have n2_ := Aside0.mk (Kd.R_below (Kd.R_below HO311.out lt_) hb); have n3_ := Aside0.mk (Kd.S_lower (Kd.S_new' (Kd.S_new' ho0 (Kd.S_lt (Kd.S_below HO304.out lt_))) (Kd.R_lt (Kd.R_below HO307.out lt_))) (below_size (at_ HB.out))); have n4_ := Aside0.mk (blk_at BK298.out hb); have n5_ := Aside0.mk (below_step (at_ HB.out) hb); clear HO304; clear HO307; clear HO311; clear BK298; clear HB; have HO304 := n0_; have HO307 := n1_; have HO311 := n2_; have HO315 := n3_; have BK298 := n4_; have HB := n5_; clear n0_ n1_ n2_ n3_ n4_ n5_; (try clear hb); (try clear hb2); (try clear hk); (try clear hi); (try clear ho0)) | ((with_reducible refine gate_callee (f := 33) rfl ?_); refine goesL_ (some 41) rfl rfl Try.func33 (by kernel_rfl) rfl #[.slice A2 l2.length c2] rfl (by (try simp only [List.map_toArray, List.map_cons, List.map_nil]); first | done | rfl | (simp only [List.length_drop, List.length_take]; rfl)) ?_; (with_reducible refine (laws_toMarkS.calls k _ _ l2 t316 _ ?side1 ?side2 A24.out).mono ?_); (case side1 => exact Kd.C_below (Kd.C_below HR2.out HB.out) lt_); (case side2 => exact HC2.out); rintro e w168 ⟨v317, rfl, ho0, hb⟩; refine ⟨_, rfl, ?_⟩; have n0_ := Aside0.mk (Kd.S_elder' (Kd.S_below HO304.out lt_) (Kd.R_base ho0) hb); have n1_ := Aside0.mk (Kd.R_elder' (Kd.R_below HO307.out lt_) (Kd.R_base ho0) hb); have n2_ := Aside0.mk (Kd.R_below (Kd.R_below HO311.out lt_) hb); have n3_ := Aside0.mk (Kd.S_elder' (Kd.S_below HO315.out lt_) (Kd.R_base ho0) hb); have n4_ := Aside0.mk (Kd.R_lower (Kd.R_new' ho0 (Kd.R_lt (Kd.R_below HO307.out lt_))) (below_size (at_ HB.out))); have n5_ := Aside0.mk (blk_at BK298.out hb); have n6_ := Aside0.mk (below_step (at_ HB.out) hb); clear HO304; clear HO307; clear HO311; clear HO315; clear BK298; clear HB; have HO304 := n0_; have HO307 := n1_; have HO311 := n2_; have HO315 := n3_; have HO318 := n4_; have BK298 := n5_; have HB := n6_; clear n0_ n1_ n2_ n3_ n4_ n5_ n6_; (try clear hb); (try clear hb2); (try clear hk); (try clear hi); (try clear ho0); have hcz169_0 := blk_cell BK298.out 0; have hcz169_1 := blk_cell BK298.out 1; have hfz169_0 := blk_frozen BK298.out 0; have hfz169_1 := blk_frozen BK298.out 1) | ((with_reducible refine gate_callee (f := 34) rfl ?_); refine goesL_ (some 43) rfl rfl Try.func34 (by kernel_rfl) rfl #[.agg #[.int .i64 a3_0, .slice A3_1 l3_1.length c3_1]] rfl (by (try simp only [List.map_toArray, List.map_cons, List.map_nil]); first | done | rfl | (simp only [List.length_drop, List.length_take]; rfl)) ?_; (with_reducible refine (laws_toProof.calls k a3_0 _ _ l3_1 t319 t320 _ ?side1 ?side2 A25.out).mono ?_); (case side1 => exact Kd.C_below (Kd.C_below HR3_1.out HB.out) lt_); (case side2 => exact HC3_1.out); rintro e w170 ⟨v321, rfl, ho0, hb⟩; refine ⟨_, rfl, ?_⟩; have n0_ := Aside0.mk (Kd.S_below (Kd.S_below HO304.out lt_) hb); have n1_ := Aside0.mk (Kd.R_below (Kd.R_below HO307.out lt_) hb); have n2_ := Aside0.mk (Kd.R_elder' (Kd.R_below HO311.out lt_) (Kd.R_base ho0) hb); have n3_ := Aside0.mk (Kd.S_below (Kd.S_below HO315.out lt_) hb); have n4_ := Aside0.mk (Kd.R_below (Kd.R_below HO318.out lt_) hb); have n5_ := Aside0.mk (Kd.R_lower (Kd.R_new' ho0 (Kd.R_lt (Kd.R_below HO311.out lt_))) (below_size (at_ HB.out))); have n6_ := Aside0.mk (blk_at BK298.out hb); have n7_ := Aside0.mk (below_step (at_ HB.out) hb); clear HO304; clear HO307; clear HO311; clear HO315; clear HO318; clear BK298; clear HB; have HO304 := n0_; have HO307 := n1_; have HO311 := n2_; have HO315 := n3_; have HO318 := n4_; have HO322 := n5_; have BK298 := n6_; have HB := n7_; clear n0_ n1_ n2_ n3_ n4_ n5_ n6_ n7_; (try clear hb); (try clear hb2); (try clear hk); (try clear hi); (try clear ho0)) | ((with_reducible refine gate_dst (N := 13) rfl ?_); refine box_event ?hg (N := 13) ?hd (cs := #[.int .i64 0, .slice none 0 0]) (t := 51) ?hr ?_; (case hd => rfl); (case hg => rfl); (case hr => first | (go_simp; done) | (go_simp; rfl)); intro gb323 hg w171 hbox hb; have n0_ := Aside0.mk (Kd.S_below (Kd.S_below HO304.out lt_) hb); have n1_ := Aside0.mk (Kd.R_below (Kd.R_below HO307.out lt_) hb); have n2_ := Aside0.mk (Kd.R_below (Kd.R_below HO311.out lt_) hb); have n3_ := Aside0.mk (Kd.S_below (Kd.S_below HO315.out lt_) hb); have n4_ := Aside0.mk (Kd.R_below (Kd.R_below HO318.out lt_) hb); have n5_ := Aside0.mk (Kd.R_below (Kd.R_below HO322.out lt_) hb); have n6_ := Aside0.mk (blk_at BK298.out hb); have n7_ := Aside0.mk (below_step (at_ HB.out) hb); have n8_ := Aside0.mk (hbox); have n9_ := Aside0.mk ((by rw [hg]; exact (below_size (at_ HB.out)) : w.heap.size ≤ gb323)); have n10_ := Aside0.mk ((by rw [hg]; exact (below_size (at_ HB.out)) : w.heap.size ≤ gb323)); have n11_ := Aside0.mk ((by rw [hg]; exact Nat.ne_of_lt (blk_lt (g := gb298) (o := .cells #[.int .i64 a3_0, .slice A3_1 l3_1.length c3_1] 57 (0, 0)) (by (with_reducible repeat (first | refine blk_drewN ?_ _ | refine blk_drew ?_ | refine blk_alloc ?_ _)); exact BK298.out)) : gb298 ≠ gb323)); have n12_ := Aside0.mk ((by rw [hg]; exact Nat.ne_of_gt (blk_lt (g := gb298) (o := .cells #[.int .i64 a3_0, .slice A3_1 l3_1.length c3_1] 57 (0, 0)) (by (with_reducible repeat (first | refine blk_drewN ?_ _ | refine blk_drew ?_ | refine blk_alloc ?_ _)); exact BK298.out)) : gb323 ≠ gb298)); clear HO304; clear HO307; clear HO311; clear HO315; clear HO318; clear HO322; clear BK298; clear HB; have HO304 := n0_; have HO307 := n1_; have HO311 := n2_; have HO315 := n3_; have HO318 := n4_; have HO322 := n5_; have BK298 := n6_; have HB := n7_; have BK323 := n8_; have GW323 := n9_; have GE323 := n10_; have NB298_323 := n11_; have NB323_298 := n12_; clear n0_ n1_ n2_ n3_ n4_ n5_ n6_ n7_ n8_ n9_ n10_ n11_ n12_; clear hb hbox hg; have hnb172 := NB323_298.out; have hnc172 := NB298_323.out; have hcz173_0 := blk_cell BK323.out 0; have hcz173_1 := blk_cell BK323.out 1; have hfz173_0 := blk_frozen BK323.out 0; have hfz173_1 := blk_frozen BK323.out 1; obtain ⟨Ao174, co174, eo174⟩ := Kd.R_slice HO322.out; subst eo174; obtain ⟨Ao175, co175, eo175⟩ := Kd.S_slice HO315.out; subst eo175; obtain ⟨Ao176, co176, eo176⟩ := Kd.R_slice HO318.out; subst eo176) | ((with_reducible refine gate_callee (f := 35) rfl ?_); refine goesL_ (some 48) rfl rfl Try.func35 (by kernel_rfl) rfl #[.int .i64 a0, .slice Ao175 t313.length co175, .slice Ao176 t316.length co176, .agg #[.int .i64 t319, .slice Ao174 t320.length co174]] rfl (by (try simp only [List.map_toArray, List.map_cons, List.map_nil]); first | done | rfl | (simp only [List.length_drop, List.length_take]; rfl)) ?_; (with_reducible refine (impl_ProofOk.calls a0 _ _ t313 _ _ t316 t319 _ _ t320 t324 _ ?side1 ?side2 ?side3 ?side4 ?side5 ?side6 A26.out).mono ?_); (case side1 => refine (Kd.S_reads' (e := 38) (base := w.heap.size) (ok := fun k_ => (((True ∧ some k_ ≠ (.slice Ao163 t302.length co163 : Value).ownBlock) ∧ some k_ ≠ (.slice Ao164 t305.length co164 : Value).ownBlock) ∧ some k_ ≠ (.slice Ao176 t316.length co176 : Value).ownBlock)) (n := t313.length) (c := co175) ?_).2.2; exact (by (with_reducible repeat (first | apply Kd.S_alloc | apply Kd.S_drewN | apply Kd.S_drew)); exact (Kd.S_mono (Kd.S_far (p := ⟨gb323, 1, none⟩) (Kd.S_far (p := ⟨gb323, 0, none⟩) (Kd.S_types HO315.out BK323.out (by decide)) (fun _ hk => hk.2) (.int .i64 t319)) (fun _ hk => hk.2) (.slice Ao174 t320.length co174)) (fun _ h_ => h_.1)))); (case side2 => exact (Kd.S_reads' HO315.out).2.1); (case side3 => refine (Kd.R_reads' (e := 47) (base := w.heap.size) (ok := fun k_ => (True ∧ some k_ ≠ (.slice Ao164 t305.length co164 : Value).ownBlock)) (n := t316.length) (c := co176) ?_).2.2; exact (by (with_reducible repeat (first | apply Kd.R_alloc | apply Kd.R_drewN | apply Kd.R_drew)); exact (Kd.R_mono (Kd.R_far (p := ⟨gb323, 1, none⟩) (Kd.R_far (p := ⟨gb323, 0, none⟩) (Kd.R_types HO318.out BK323.out (by decide)) (fun _ hk => hk.2) (.int .i64 t319)) (fun _ hk => hk.2) (.slice Ao174 t320.length co174)) (fun _ h_ => h_.1)))); (case side4 => exact (Kd.R_reads' HO318.out).2.1); (case side5 => refine (Kd.R_reads' (e := 93) (base := w.heap.size) (ok := fun k_ => (True ∧ some k_ ≠ (.slice Ao165 t309.length co165 : Value).ownBlock)) (n := t320.length) (c := co174) ?_).2.2; exact (by (with_reducible repeat (first | apply Kd.R_alloc | apply Kd.R_drewN | apply Kd.R_drew)); exact (Kd.R_mono (Kd.R_far (p := ⟨gb323, 1, none⟩) (Kd.R_far (p := ⟨gb323, 0, none⟩) (Kd.R_types HO322.out BK323.out (by decide)) (fun _ hk => hk.2) (.int .i64 t319)) (fun _ hk => hk.2) (.slice Ao174 t320.length co174)) (fun _ h_ => h_.1)))); (case side6 => exact (Kd.R_reads' HO322.out).2.1); rintro e w177 ⟨rfl, hb⟩; refine ⟨_, rfl, ?_⟩; have n0_ := Aside0.mk (Kd.S_below (by (with_reducible repeat (first | apply Kd.S_alloc | apply Kd.S_drewN | apply Kd.S_drew)); exact (Kd.S_mono (Kd.S_far (p := ⟨gb323, 1, none⟩) (Kd.S_far (p := ⟨gb323, 0, none⟩) (Kd.S_types HO304.out BK323.out (by decide)) (fun _ hk => hk.2) (.int .i64 t319)) (fun _ hk => hk.2) (.slice Ao174 t320.length co174)) (fun _ h_ => h_.1))) hb); have n1_ := Aside0.mk (Kd.R_below (by (with_reducible repeat (first | apply Kd.R_alloc | apply Kd.R_drewN | apply Kd.R_drew)); exact (Kd.R_mono (Kd.R_far (p := ⟨gb323, 1, none⟩) (Kd.R_far (p := ⟨gb323, 0, none⟩) (Kd.R_types HO307.out BK323.out (by decide)) (fun _ hk => hk.2) (.int .i64 t319)) (fun _ hk => hk.2) (.slice Ao174 t320.length co174)) (fun _ h_ => h_.1))) hb); have n2_ := Aside0.mk (Kd.R_below (by (with_reducible repeat (first | apply Kd.R_alloc | apply Kd.R_drewN | apply Kd.R_drew)); exact (Kd.R_mono (Kd.R_far (p := ⟨gb323, 1, none⟩) (Kd.R_far (p := ⟨gb323, 0, none⟩) (Kd.R_types HO311.out BK323.out (by decide)) (fun _ hk => hk.2) (.int .i64 t319)) (fun _ hk => hk.2) (.slice Ao174 t320.length co174)) (fun _ h_ => h_.1))) hb); have n3_ := Aside0.mk (Kd.S_below (by (with_reducible repeat (first | apply Kd.S_alloc | apply Kd.S_drewN | apply Kd.S_drew)); exact (Kd.S_mono (Kd.S_far (p := ⟨gb323, 1, none⟩) (Kd.S_far (p := ⟨gb323, 0, none⟩) (Kd.S_types HO315.out BK323.out (by decide)) (fun _ hk => hk.2) (.int .i64 t319)) (fun _ hk => hk.2) (.slice Ao174 t320.length co174)) (fun _ h_ => h_.1))) hb); have n4_ := Aside0.mk (Kd.R_below (by (with_reducible repeat (first | apply Kd.R_alloc | apply Kd.R_drewN | apply Kd.R_drew)); exact (Kd.R_mono (Kd.R_far (p := ⟨gb323, 1, none⟩) (Kd.R_far (p := ⟨gb323, 0, none⟩) (Kd.R_types HO318.out BK323.out (by decide)) (fun _ hk => hk.2) (.int .i64 t319)) (fun _ hk => hk.2) (.slice Ao174 t320.length co174)) (fun _ h_ => h_.1))) hb); have n5_ := Aside0.mk (Kd.R_below (by (with_reducible repeat (first | apply Kd.R_alloc | apply Kd.R_drewN | apply Kd.R_drew)); exact (Kd.R_mono (Kd.R_far (p := ⟨gb323, 1, none⟩) (Kd.R_far (p := ⟨gb323, 0, none⟩) (Kd.R_types HO322.out BK323.out (by decide)) (fun _ hk => hk.2) (.int .i64 t319)) (fun _ hk => hk.2) (.slice Ao174 t320.length co174)) (fun _ h_ => h_.1))) hb); have n6_ := Aside0.mk (blk_below (g := gb298) (o := .cells #[.int .i64 a3_0, .slice A3_1 l3_1.length c3_1] 57 (0, 0)) (by (with_reducible repeat (first | refine blk_drewN ?_ _ | refine blk_drew ?_ | refine blk_alloc ?_ _)); refine blk_far ?_ NB298_323.out _; (with_reducible repeat (first | refine blk_drewN ?_ _ | refine blk_drew ?_ | refine blk_alloc ?_ _)); refine blk_far ?_ NB298_323.out _; (with_reducible repeat (first | refine blk_drewN ?_ _ | refine blk_drew ?_ | refine blk_alloc ?_ _)); exact BK298.out) hb); have n7_ := Aside0.mk (blk_below (g := gb323) (o := .cells #[.int .i64 t319, .slice Ao174 t320.length co174] 51 (0, 0)) (by (with_reducible repeat (first | refine blk_drewN ?_ _ | refine blk_drew ?_ | refine blk_alloc ?_ _)); refine blk_put (cs := #[.int .i64 t319, .slice none 0 0]) ?_ 1 _ rfl; (with_reducible repeat (first | refine blk_drewN ?_ _ | refine blk_drew ?_ | refine blk_alloc ?_ _)); refine blk_put (cs := #[.int .i64 0, .slice none 0 0]) ?_ 0 _ rfl; (with_reducible repeat (first | refine blk_drewN ?_ _ | refine blk_drew ?_ | refine blk_alloc ?_ _)); exact BK323.out) hb); have n8_ := Aside0.mk (below_step (at_ HB.out) hb); clear HO304; clear HO307; clear HO311; clear HO315; clear HO318; clear HO322; clear BK298; clear BK323; clear HB; have HO304 := n0_; have HO307 := n1_; have HO311 := n2_; have HO315 := n3_; have HO318 := n4_; have HO322 := n5_; have BK298 := n6_; have BK323 := n7_; have HB := n8_; clear n0_ n1_ n2_ n3_ n4_ n5_ n6_ n7_ n8_; (try clear hb); (try clear hb2); (try clear hk); (try clear hi)) | ((with_reducible refine gate_callee (f := 14) rfl ?_); refine goesL_ (some 54) rfl rfl Try.func14 (by kernel_rfl) rfl #[.slice A1 l1.length c1] rfl (by (try simp only [List.map_toArray, List.map_cons, List.map_nil]); first | done | rfl | (simp only [List.length_drop, List.length_take]; rfl)) ?_; (with_reducible refine (laws_toClaimS.calls k _ _ l1 t325 _ ?side1 ?side2 A51.out).mono ?_); (case side1 => exact Kd.C_below (Kd.C_below HR1.out HB.out) lt_); (case side2 => exact HC1.out); rintro e w178 ⟨v326, rfl, ho0, hb⟩; refine ⟨_, rfl, ?_⟩; have n0_ := Aside0.mk (Kd.S_elder' (Kd.S_below HO304.out lt_) (Kd.S_base ho0) hb); have n1_ := Aside0.mk (Kd.R_below (Kd.R_below HO307.out lt_) hb); have n2_ := Aside0.mk (Kd.R_below (Kd.R_below HO311.out lt_) hb); have n3_ := Aside0.mk (Kd.S_elder' (Kd.S_below HO315.out lt_) (Kd.S_base ho0) hb); have n4_ := Aside0.mk (Kd.R_below (Kd.R_below HO318.out lt_) hb); have n5_ := Aside0.mk (Kd.R_below (Kd.R_below HO322.out lt_) hb); have n6_ := Aside0.mk (Kd.S_lower (Kd.S_new' (Kd.S_new' (Kd.S_new' (Kd.S_new' ho0 (Kd.S_lt (Kd.S_below HO304.out lt_))) (Kd.R_lt (Kd.R_below HO307.out lt_))) (Kd.S_lt (Kd.S_below HO315.out lt_))) (Kd.R_lt (Kd.R_below HO318.out lt_))) (below_size (at_ HB.out))); have n7_ := Aside0.mk (blk_at BK298.out hb); have n8_ := Aside0.mk (blk_at BK323.out hb); have n9_ := Aside0.mk (below_step (at_ HB.out) hb); clear HO304; clear HO307; clear HO311; clear HO315; clear HO318; clear HO322; clear BK298; clear BK323; clear HB; have HO304 := n0_; have HO307 := n1_; have HO311 := n2_; have HO315 := n3_; have HO318 := n4_; have HO322 := n5_; have HO327 := n6_; have BK298 := n7_; have BK323 := n8_; have HB := n9_; clear n0_ n1_ n2_ n3_ n4_ n5_ n6_ n7_ n8_ n9_; (try clear hb); (try clear hb2); (try clear hk); (try clear hi); (try clear ho0); obtain ⟨Ao179, co179, eo179⟩ := Kd.S_slice HO327.out; subst eo179) | ((with_reducible refine gate_callee (f := 16) rfl ?_); refine goesL_ (some 55) rfl rfl Try.func16 (by kernel_rfl) rfl #[.slice Ao175 t313.length co175, .slice Ao179 t325.length co179] rfl (by (try simp only [List.map_toArray, List.map_cons, List.map_nil]); first | done | rfl | (simp only [List.length_drop, List.length_take]; rfl)) ?_; (with_reducible refine (laws_eqClaimS.calls k _ _ t313 _ _ t325 false _ ?side1 ?side2 ?side3 ?side4 A52.out).mono ?_); (case side1 => exact Kd.C_below (Kd.S_reads' HO315.out).2.2 lt_); (case side2 => exact (Kd.S_reads' HO315.out).2.1); (case side3 => exact Kd.C_below (Kd.S_reads' HO327.out).2.2 lt_); (case side4 => exact (Kd.S_reads' HO327.out).2.1); rintro e w180 ⟨rfl, hb⟩; refine ⟨_, rfl, ?_⟩; have n0_ := Aside0.mk (Kd.S_below (Kd.S_below HO304.out lt_) hb); have n1_ := Aside0.mk (Kd.R_below (Kd.R_below HO307.out lt_) hb); have n2_ := Aside0.mk (Kd.R_below (Kd.R_below HO311.out lt_) hb); have n3_ := Aside0.mk (Kd.S_below (Kd.S_below HO315.out lt_) hb); have n4_ := Aside0.mk (Kd.R_below (Kd.R_below HO318.out lt_) hb); have n5_ := Aside0.mk (Kd.R_below (Kd.R_below HO322.out lt_) hb); have n6_ := Aside0.mk (Kd.S_below (Kd.S_below HO327.out lt_) hb); have n7_ := Aside0.mk (blk_at BK298.out hb); have n8_ := Aside0.mk (blk_at BK323.out hb); have n9_ := Aside0.mk (below_step (at_ HB.out) hb); clear HO304; clear HO307; clear HO311; clear HO315; clear HO318; clear HO322; clear HO327; clear BK298; clear BK323; clear HB; have HO304 := n0_; have HO307 := n1_; have HO311 := n2_; have HO315 := n3_; have HO318 := n4_; have HO322 := n5_; have HO327 := n6_; have BK298 := n7_; have BK323 := n8_; have HB := n9_; clear n0_ n1_ n2_ n3_ n4_ n5_ n6_ n7_ n8_ n9_; (try clear hb); (try clear hb2); (try clear hk); (try clear hi)))
      go_ret
      exact ⟨by first | rfl | (simp [errW_none, errW_some] <;> rfl) | (simp [*, errW_none, errW_some] <;> rfl), at_ HB.out⟩

/-- THE ONE PURE STATEMENT of laws_FnExactProofOk. -/
noncomputable def laws_FnExactProofOk.Pure : Prop := ∀ (a0 : Int) (l1 : List (S75)) (l2 : List (S100)) (a3_0 : Int) (l3_1 : List (S124)), ((Lit.int .i64 a0).wf = true) → (l1.length ≤ maxLen ∧ ∀ y0 ∈ l1, ((Lit.int .i64 y0.f0).wf = true) ∧ (y0.f1.length ≤ maxLen ∧ ∀ y1 ∈ y0.f1, ((Lit.int .i64 y1.f0).wf = true) ∧ ((Lit.int .i64 y1.f1).wf = true))) → (l2.length ≤ maxLen ∧ ∀ y0 ∈ l2, ((Lit.int .i64 y0.f0).wf = true) ∧ ((Lit.int .i64 y0.f1).wf = true)) → ((Lit.int .i64 a3_0).wf = true) → (l3_1.length ≤ maxLen ∧ ∀ y0 ∈ l3_1, ((Lit.int .i64 y0.f0).wf = true) ∧ ((Lit.int .i64 y0.f1).wf = true) ∧ ((Lit.int .i64 y0.f2).wf = true)) → ∃ k, laws_FnExactProofOk.f k a0 l1 l2 a3_0 l3_1 = some true
theorem laws_FnExactProofOk.walk (P : laws_FnExactProofOk.Pure) (a0 : Int) (A1 : Option Addr) (c1 : Nat) (l1 : List (S75)) (A2 : Option Addr) (c2 : Nat) (l2 : List (S100)) (a3_0 : Int) (A3_1 : Option Addr) (c3_1 : Nat) (l3_1 : List (S124)) (w : World) (hr1 : Kd.C k75 w A1 l1.length l1) (hc1 : l1.length ≤ c1) (hr2 : Kd.C k100 w A2 l2.length l2) (hc2 : l2.length ≤ c2) (hr3_1 : Kd.C k124 w A3_1 l3_1.length l3_1) (hc3_1 : l3_1.length ≤ c3_1) (wf0_ : (Lit.int .i64 a0).wf = true) (wf1_ : l1.length ≤ maxLen ∧ ∀ y0 ∈ l1, ((Lit.int .i64 y0.f0).wf = true) ∧ (y0.f1.length ≤ maxLen ∧ ∀ y1 ∈ y0.f1, ((Lit.int .i64 y1.f0).wf = true) ∧ ((Lit.int .i64 y1.f1).wf = true))) (wf2_ : l2.length ≤ maxLen ∧ ∀ y0 ∈ l2, ((Lit.int .i64 y0.f0).wf = true) ∧ ((Lit.int .i64 y0.f1).wf = true)) (wf3_ : (Lit.int .i64 a3_0).wf = true) (wf4_ : l3_1.length ≤ maxLen ∧ ∀ y0 ∈ l3_1, ((Lit.int .i64 y0.f0).wf = true) ∧ ((Lit.int .i64 y0.f1).wf = true) ∧ ((Lit.int .i64 y0.f2).wf = true)) :
  Calls Try.prog 8 #[.int .i64 a0, .slice A1 l1.length c1, .slice A2 l2.length c2, .agg #[.int .i64 a3_0, .slice A3_1 l3_1.length c3_1]] w fun e w' => e = .returned (.bool true) ∧ Below w.heap.size w w' := by
 obtain ⟨k, h⟩ := P a0 l1 l2 a3_0 l3_1 wf0_ wf1_ wf2_ wf3_ wf4_
 refine (laws_FnExactProofOk.calls k a0 A1 c1 l1 A2 c2 l2 a3_0 A3_1 c3_1 l3_1 true w hr1 hc1 hr2 hc2 hr3_1 hc3_1 h).mono ?_
 rintro e w' ⟨rfl, hd⟩
 exact ⟨rfl, hd⟩

end Go.Proofs.Ytcaogllnbpmcgaa.P

/- Written by our program myprint.py out of Lean's print of the translation: Go's function comes to just the answer of the Lean function told here. -/
import Derived.Test.YtbhmippoeimliaaPx4
import Derived.Test.YtbhmippoeimliaaPx16
import Derived.Test.YtbhmippoeimliaaPx0
import Derived.Test.YtbhmippoeimliaaPx2
import Derived.Test.YtbhmippoeimliaaPx5
import Derived.Test.YtbhmippoeimliaaPx9
import Derived.Test.YtbhmippoeimliaaPx15
namespace Go.Proofs.Ytbhmippoeimliaa.P
open Go.RowKit Go.Proofs.YtbhmippoeimliaaW.PrintWords Go.Proofs.YtbhmippoeimliaaW.PrintLast Go.Proofs.YtbhmippoeimliaaW.PrintMore
attribute [local go_sem] max2_int min2_int max_two min_two max_three min_three max_four min_four   -- for this text's walks alone
set_option linter.unusedVariables false
set_option linter.unusedSimpArgs false

/-! ### laws_FnExactMadeStory: function 12 -/
mutual
def laws_FnExactMadeStory.j0 : Nat → Int → Int → List (List (S107)) → List (S83) → Bool → List (List (S81)) → List (S83) → Bool → Bool → Option (Bool)
 | 0, _, _, _, _, _, _, _, _, _ => none
 | k + 1, x0, x1, x2, x8, x9, x10, x11, x12, x48 => if x48 = true then (some false) else ((laws_toMarkSS.f k x2).bind fun t329 => ((laws_eqMarkSS.f k x10 t329).bind fun t332 => (if t332 = true then ((laws_markMarkSS.f k x10 1).bind fun bt333 => (if bt333.1 < 0 then (laws_FnExactMadeStory.j1 k x0 x1 x2 x8 x9 x11 true) else ((laws_eqClaimS.f k x11 x8).bind fun t334 => (if t334 = true then (laws_FnExactMadeStory.j1 k x0 x1 x2 x8 x9 x11 (x12 != x9)) else (laws_FnExactMadeStory.j1 k x0 x1 x2 x8 x9 x11 true))))) else (some false))))
def laws_FnExactMadeStory.j1 : Nat → Int → Int → List (List (S107)) → List (S83) → Bool → List (S83) → Bool → Option (Bool)
 | 0, _, _, _, _, _, _, _ => none
 | k + 1, x0, x1, x2, x8, x9, x11, x69 => if x69 = true then (some false) else ((laws_markClaimS.f k x11 1).bind fun bt335 => ((laws_heldClaimS.f k bt335.2 1).bind fun t336 => (if t336 < 0 then (some false) else (if t336 = bt335.1 then ((laws_toMarkSS.f k x2).bind fun t337 => ((impl_MadeStory.f k x0 x1 t337).bind fun bt340 => ((laws_eqClaimS.f k bt340.1 x8).bind fun t344 => (if t344 = true then (laws_FnExactMadeStory.j2 k bt335.2 bt335.1 (bt340.2 != x9)) else (laws_FnExactMadeStory.j2 k bt335.2 bt335.1 true))))) else (some false)))))
def laws_FnExactMadeStory.j2 : Nat → List (S83) → Int → Bool → Option (Bool)
 | 0, _, _, _ => none
 | k + 1, x11, x14, x97 => if x97 = true then (some false) else ((laws_heldClaimS.f k x11 1).bind fun t345 => (if t345 < 0 then (some false) else (if t345 = x14 then (some true) else (some false))))
end
def laws_FnExactMadeStory.f (k : Nat) (a0 : Int) (a1 : Int) (l2 : List (List (S107))) : Option (Bool) := (laws_szMarkSS.f k l2 1048576).bind fun t313 => (if t313 < 0 then (some true) else ((laws_toMarkSS.f k l2).bind fun t314 => ((spec_MadeStory.f k a0 a1 t314).bind fun bt317 => ((laws_toMarkSS.f k l2).bind fun t321 => ((impl_MadeStory.f k a0 a1 t321).bind fun bt324 => ((laws_eqClaimS.f k bt324.1 bt317.1).bind fun t328 => (if t328 = true then (laws_FnExactMadeStory.j0 k a0 a1 l2 bt317.1 bt317.2 t321 bt324.1 bt324.2 (bt324.2 != bt317.2)) else (laws_FnExactMadeStory.j0 k a0 a1 l2 bt317.1 bt317.2 t321 bt324.1 bt324.2 true))))))))
theorem laws_FnExactMadeStory.mono_l : ∀ k, (∀ y0 y1 y2 y3 y4 y5 y6 y7 y8, LeO (laws_FnExactMadeStory.j0 k y0 y1 y2 y3 y4 y5 y6 y7 y8) (laws_FnExactMadeStory.j0 (k + 1) y0 y1 y2 y3 y4 y5 y6 y7 y8)) ∧ (∀ y0 y1 y2 y3 y4 y5 y6, LeO (laws_FnExactMadeStory.j1 k y0 y1 y2 y3 y4 y5 y6) (laws_FnExactMadeStory.j1 (k + 1) y0 y1 y2 y3 y4 y5 y6)) ∧ (∀ y0 y1 y2, LeO (laws_FnExactMadeStory.j2 k y0 y1 y2) (laws_FnExactMadeStory.j2 (k + 1) y0 y1 y2))
 | 0 => ⟨fun _ _ _ _ _ _ _ _ _ r h => by simp [laws_FnExactMadeStory.j0] at h, fun _ _ _ _ _ _ _ r h => by simp [laws_FnExactMadeStory.j1] at h, fun _ _ _ r h => by simp [laws_FnExactMadeStory.j2] at h⟩
 | k + 1 => by
  obtain ⟨ih0, ih1, ih2⟩ := laws_FnExactMadeStory.mono_l k
  refine ⟨?_, ?_, ?_⟩
  ·intro y0 y1 y2 y3 y4 y5 y6 y7 y8
   unfold laws_FnExactMadeStory.j0
   repeat' first
   | (with_reducible exact ih0 _ _ _ _ _ _ _ _ _)
   | (with_reducible exact ih1 _ _ _ _ _ _ _)
   | (with_reducible exact ih2 _ _ _)
   | (with_reducible exact impl_MadeStory.mono _ _ _ _)
   | (with_reducible exact laws_eqClaimS.mono _ _ _)
   | (with_reducible exact laws_eqMarkSS.mono _ _ _)
   | (with_reducible exact laws_heldClaimS.mono _ _ _)
   | (with_reducible exact laws_markClaimS.mono _ _ _)
   | (with_reducible exact laws_szMarkSS.mono _ _ _)
   | (with_reducible exact laws_markMarkSS.mono _ _ _)
   | (with_reducible exact laws_toMarkSS.mono _ _)
   | (with_reducible exact spec_MadeStory.mono _ _ _ _)
   | (with_reducible exact LeO.refl _)
   | (with_reducible exact LeO.none _)
   | (with_reducible refine LeO.ite ?_ ?_)
   | (with_reducible refine LeO.bind ?_ (fun _ => ?_))
   | exact ih0 _ _ _ _ _ _ _ _ _
   | exact ih1 _ _ _ _ _ _ _
   | exact ih2 _ _ _
   | exact impl_MadeStory.mono _ _ _ _
   | exact laws_eqClaimS.mono _ _ _
   | exact laws_eqMarkSS.mono _ _ _
   | exact laws_heldClaimS.mono _ _ _
   | exact laws_szMarkSS.mono _ _ _
   | exact laws_toMarkSS.mono _ _
   | exact spec_MadeStory.mono _ _ _ _
   | exact LeO.none _
   | refine LeO.ite ?_ ?_
   | refine LeO.bind ?_ (fun _ => ?_)
  ·intro y0 y1 y2 y3 y4 y5 y6
   unfold laws_FnExactMadeStory.j1
   repeat' first
   | (with_reducible exact ih0 _ _ _ _ _ _ _ _ _)
   | (with_reducible exact ih1 _ _ _ _ _ _ _)
   | (with_reducible exact ih2 _ _ _)
   | (with_reducible exact impl_MadeStory.mono _ _ _ _)
   | (with_reducible exact laws_eqClaimS.mono _ _ _)
   | (with_reducible exact laws_eqMarkSS.mono _ _ _)
   | (with_reducible exact laws_heldClaimS.mono _ _ _)
   | (with_reducible exact laws_markClaimS.mono _ _ _)
   | (with_reducible exact laws_szMarkSS.mono _ _ _)
   | (with_reducible exact laws_markMarkSS.mono _ _ _)
   | (with_reducible exact laws_toMarkSS.mono _ _)
   | (with_reducible exact spec_MadeStory.mono _ _ _ _)
   | (with_reducible exact LeO.refl _)
   | (with_reducible exact LeO.none _)
   | (with_reducible refine LeO.ite ?_ ?_)
   | (with_reducible refine LeO.bind ?_ (fun _ => ?_))
   | exact ih0 _ _ _ _ _ _ _ _ _
   | exact ih1 _ _ _ _ _ _ _
   | exact ih2 _ _ _
   | exact impl_MadeStory.mono _ _ _ _
   | exact laws_eqClaimS.mono _ _ _
   | exact laws_eqMarkSS.mono _ _ _
   | exact laws_heldClaimS.mono _ _ _
   | exact laws_szMarkSS.mono _ _ _
   | exact laws_toMarkSS.mono _ _
   | exact spec_MadeStory.mono _ _ _ _
   | exact LeO.none _
   | refine LeO.ite ?_ ?_
   | refine LeO.bind ?_ (fun _ => ?_)
  ·intro y0 y1 y2
   unfold laws_FnExactMadeStory.j2
   repeat' first
   | (with_reducible exact ih0 _ _ _ _ _ _ _ _ _)
   | (with_reducible exact ih1 _ _ _ _ _ _ _)
   | (with_reducible exact ih2 _ _ _)
   | (with_reducible exact impl_MadeStory.mono _ _ _ _)
   | (with_reducible exact laws_eqClaimS.mono _ _ _)
   | (with_reducible exact laws_eqMarkSS.mono _ _ _)
   | (with_reducible exact laws_heldClaimS.mono _ _ _)
   | (with_reducible exact laws_markClaimS.mono _ _ _)
   | (with_reducible exact laws_szMarkSS.mono _ _ _)
   | (with_reducible exact laws_markMarkSS.mono _ _ _)
   | (with_reducible exact laws_toMarkSS.mono _ _)
   | (with_reducible exact spec_MadeStory.mono _ _ _ _)
   | (with_reducible exact LeO.refl _)
   | (with_reducible exact LeO.none _)
   | (with_reducible refine LeO.ite ?_ ?_)
   | (with_reducible refine LeO.bind ?_ (fun _ => ?_))
   | exact ih0 _ _ _ _ _ _ _ _ _
   | exact ih1 _ _ _ _ _ _ _
   | exact ih2 _ _ _
   | exact impl_MadeStory.mono _ _ _ _
   | exact laws_eqClaimS.mono _ _ _
   | exact laws_eqMarkSS.mono _ _ _
   | exact laws_heldClaimS.mono _ _ _
   | exact laws_szMarkSS.mono _ _ _
   | exact laws_toMarkSS.mono _ _
   | exact spec_MadeStory.mono _ _ _ _
   | exact LeO.none _
   | refine LeO.ite ?_ ?_
   | refine LeO.bind ?_ (fun _ => ?_)
theorem laws_FnExactMadeStory.mono : ∀ a0 a1 a2 k, LeO (laws_FnExactMadeStory.f k a0 a1 a2) (laws_FnExactMadeStory.f (k + 1) a0 a1 a2) := by
 intro a0 a1 a2 k
 obtain ⟨ih0, ih1, ih2⟩ := laws_FnExactMadeStory.mono_l k
 unfold laws_FnExactMadeStory.f
 repeat' first
   | (with_reducible exact ih0 _ _ _ _ _ _ _ _ _)
   | (with_reducible exact ih1 _ _ _ _ _ _ _)
   | (with_reducible exact ih2 _ _ _)
   | (with_reducible exact impl_MadeStory.mono _ _ _ _)
   | (with_reducible exact laws_eqClaimS.mono _ _ _)
   | (with_reducible exact laws_eqMarkSS.mono _ _ _)
   | (with_reducible exact laws_heldClaimS.mono _ _ _)
   | (with_reducible exact laws_markClaimS.mono _ _ _)
   | (with_reducible exact laws_szMarkSS.mono _ _ _)
   | (with_reducible exact laws_markMarkSS.mono _ _ _)
   | (with_reducible exact laws_toMarkSS.mono _ _)
   | (with_reducible exact spec_MadeStory.mono _ _ _ _)
   | (with_reducible exact LeO.refl _)
   | (with_reducible exact LeO.none _)
   | (with_reducible refine LeO.ite ?_ ?_)
   | (with_reducible refine LeO.bind ?_ (fun _ => ?_))
   | exact ih0 _ _ _ _ _ _ _ _ _
   | exact ih1 _ _ _ _ _ _ _
   | exact ih2 _ _ _
   | exact impl_MadeStory.mono _ _ _ _
   | exact laws_eqClaimS.mono _ _ _
   | exact laws_eqMarkSS.mono _ _ _
   | exact laws_heldClaimS.mono _ _ _
   | exact laws_szMarkSS.mono _ _ _
   | exact laws_toMarkSS.mono _ _
   | exact spec_MadeStory.mono _ _ _ _
   | exact LeO.none _
   | refine LeO.ite ?_ ?_
   | refine LeO.bind ?_ (fun _ => ?_)
section
variable {α β : Type} {d : Kd α} {d' : Kd β} {e e' base base2 : Nat} {W w1 : World} {ok ok1 ok2 : Nat → Prop} {v v1 v2 : Value} {xs : List α} {ys : List β}
theorem num_SS {γ : Type} {d2 : Kd γ} {e2 : Nat} {zs : List γ} (h0 : Kd.S d e W base ok v xs) (h1 : Kd.S d2 e2 w1 W.heap.size ok1 v1 zs) : ∃ N : Nat, Kd.S d e W base (fun k => ok k ∧ k < N) v xs ∧ Kd.S d2 e2 w1 W.heap.size (fun k => ok1 k ∧ N ≤ k) v1 zs :=
  ⟨W.heap.size, Kd.S_mono (Kd.S_bound h0) (fun _ h => ⟨h.1, h.2.2.1⟩), Kd.S_mono (Kd.S_bound h1) (fun _ h => ⟨h.1, h.2.1⟩)⟩
theorem num_SSS {γ : Type} {d2 : Kd γ} {e2 : Nat} {zs : List γ} (h0 : Kd.S d e W base ok v xs) (h2 : Kd.S d2 e2 W base2 ok2 v2 zs) (h1 : Kd.S d' e' w1 W.heap.size ok1 v1 ys) : ∃ N : Nat, Kd.S d e W base (fun k => ok k ∧ k < N) v xs ∧ Kd.S d2 e2 W base2 (fun k => ok2 k ∧ k < N) v2 zs ∧ Kd.S d' e' w1 W.heap.size (fun k => ok1 k ∧ N ≤ k) v1 ys :=
  ⟨W.heap.size, Kd.S_mono (Kd.S_bound h0) (fun _ h => ⟨h.1, h.2.2.1⟩), Kd.S_mono (Kd.S_bound h2) (fun _ h => ⟨h.1, h.2.2.1⟩), Kd.S_mono (Kd.S_bound h1) (fun _ h => ⟨h.1, h.2.1⟩)⟩
end
set_option maxHeartbeats 8000000 in
set_option maxRecDepth 100000 in
theorem laws_FnExactMadeStory.calls (k : Nat) (a0 : Int) (a1 : Int) (A2 : Option Addr) (c2 : Nat) (l2 : List (List (S107))) (r : Bool) (w : World) (hr2 : Kd.C (Kd.slice 107 k107) w A2 l2.length l2) (hc2 : l2.length ≤ c2) (h : laws_FnExactMadeStory.f k a0 a1 l2 = some r) :
  Calls Try.prog 12 #[.int .i64 a0, .int .i64 a1, .slice A2 l2.length c2] w fun e w' => e = .returned (.bool r) ∧ Below w.heap.size w w' := by
 have HR2 := Aside0.mk hr2
 have HC2 := Aside0.mk hc2
 clear hr2 hc2
 have HB := Aside0.mk (Below.refl w.heap.size w)
 have H : ((laws_szMarkSS.f k l2 1048576).bind fun t313 => (if t313 < 0 then (some true) else ((laws_toMarkSS.f k l2).bind fun t314 => ((spec_MadeStory.f k a0 a1 t314).bind fun bt317 => ((laws_toMarkSS.f k l2).bind fun t321 => ((impl_MadeStory.f k a0 a1 t321).bind fun bt324 => ((laws_eqClaimS.f k bt324.1 bt317.1).bind fun t328 => (if t328 = true then (laws_FnExactMadeStory.j0 k a0 a1 l2 bt317.1 bt317.2 t321 bt324.1 bt324.2 (bt324.2 != bt317.2)) else (laws_FnExactMadeStory.j0 k a0 a1 l2 bt317.1 bt317.2 t321 bt324.1 bt324.2 true))))))))) = some r := h
 clear h
 replace H := Option.bind_eq_some_iff.mp H
 obtain ⟨t313, A40, H⟩ := H
 try dsimp only at H
 have A4 := Aside0.mk A40
 clear A40
 by_cases c5 : t313 < 0
 ·rw [if_pos c5] at H
  have c5b0 : decide (t313 < 0) = true := decide_eq_true c5
  clear c5
  obtain rfl := Option.some.inj H
  go_enter Try.func12, Try.ntmps12
  go_wp2_with (first | ((with_reducible refine gate_callee (f := 54) rfl ?_); refine goesL_ (some 20) rfl rfl Try.func54 (by kernel_rfl) rfl #[.slice A2 l2.length c2, .int .i64 1048576] rfl (by (try simp only [List.map_toArray, List.map_cons, List.map_nil]); first | done | rfl | (simp only [List.length_drop, List.length_take]; rfl)) ?_; (with_reducible refine (laws_szMarkSS.calls k _ _ l2 1048576 t313 _ ?side1 ?side2 A4.out).mono ?_); (case side1 => exact Kd.C_below HR2.out lt_); (case side2 => exact HC2.out); rintro e w' ⟨rfl, ⟨nd, rfl⟩⟩; refine ⟨_, rfl, ?_⟩))
  go_ret
  exact ⟨by first | rfl | (simp [errW_none, errW_some] <;> rfl) | (simp [*, errW_none, errW_some] <;> rfl), below_at HB.out⟩
 ·rw [if_neg c5] at H
  have c5b0 : decide (t313 < 0) = false := decide_eq_false c5
  clear c5
  replace H := Option.bind_eq_some_iff.mp H
  obtain ⟨t314, A60, H⟩ := H
  try dsimp only at H
  have A6 := Aside0.mk A60
  clear A60
  replace H := Option.bind_eq_some_iff.mp H
  obtain ⟨⟨t317, t318⟩, A70, H⟩ := H
  try dsimp only at H
  have A7 := Aside0.mk A70
  clear A70
  replace H := Option.bind_eq_some_iff.mp H
  obtain ⟨t321, A80, H⟩ := H
  try dsimp only at H
  have A8 := Aside0.mk A80
  clear A80
  replace H := Option.bind_eq_some_iff.mp H
  obtain ⟨⟨t324, t325⟩, A90, H⟩ := H
  try dsimp only at H
  have A9 := Aside0.mk A90
  clear A90
  have HC10 := Aside0.mk H
  clear H
  go_enter Try.func12, Try.ntmps12
  go_upto_region 8 with (first | ((with_reducible refine gate_callee (f := 54) rfl ?_); refine goesL_ (some 20) rfl rfl Try.func54 (by kernel_rfl) rfl #[.slice A2 l2.length c2, .int .i64 1048576] rfl (by (try simp only [List.map_toArray, List.map_cons, List.map_nil]); first | done | rfl | (simp only [List.length_drop, List.length_take]; rfl)) ?_; (with_reducible refine (laws_szMarkSS.calls k _ _ l2 1048576 t313 _ ?side1 ?side2 A4.out).mono ?_); (case side1 => exact Kd.C_below HR2.out lt_); (case side2 => exact HC2.out); rintro e w' ⟨rfl, ⟨nd, rfl⟩⟩; refine ⟨_, rfl, ?_⟩) | ((with_reducible refine gate_callee (f := 56) rfl ?_); refine goesL_ (some 27) rfl rfl Try.func56 (by kernel_rfl) rfl #[.slice A2 l2.length c2] rfl (by (try simp only [List.map_toArray, List.map_cons, List.map_nil]); first | done | rfl | (simp only [List.length_drop, List.length_take]; rfl)) ?_; (with_reducible refine (laws_toMarkSS.calls k _ _ l2 t314 _ ?side1 ?side2 A6.out).mono ?_); (case side1 => exact Kd.C_below HR2.out lt_); (case side2 => exact HC2.out); rintro e w11 ⟨v315, rfl, ho0, hb⟩; refine ⟨_, rfl, ?_⟩; have n0_ := Aside0.mk (Kd.S_lower ho0 (below_size (below_at HB.out))); have n1_ := Aside0.mk (below_step (below_at HB.out) hb); clear HB; have HO316 := n0_; have HB := n1_; clear n0_ n1_; (try clear hb); (try clear hb2); (try clear hk); (try clear hi); (try clear ho0); obtain ⟨Ao12, co12, eo12⟩ := Kd.S_slice HO316.out; subst eo12) | ((with_reducible refine gate_callee (f := 55) rfl ?_); refine goesL_ (some 28) rfl rfl Try.func55 (by kernel_rfl) rfl #[.int .i64 a0, .int .i64 a1, .slice Ao12 t314.length co12] rfl (by (try simp only [List.map_toArray, List.map_cons, List.map_nil]); first | done | rfl | (simp only [List.length_drop, List.length_take]; rfl)) ?_; (with_reducible refine (spec_MadeStory.calls k a0 a1 _ _ t314 t317 t318 _ ?side1 ?side2 A7.out).mono ?_); (case side1 => exact Kd.C_below (Kd.S_reads' HO316.out).2.2 lt_); (case side2 => exact (Kd.S_reads' HO316.out).2.1); rintro e w13 ⟨v319, rfl, ho0, hb⟩; refine ⟨_, rfl, ?_⟩; have n0_ := Aside0.mk (Kd.S_below (Kd.S_below HO316.out lt_) hb); have n1_ := Aside0.mk (Kd.S_lower ho0 (below_size (below_at HB.out))); have n2_ := Aside0.mk (below_step (below_at HB.out) hb); clear HO316; clear HB; have HO316 := n0_; have HO320 := n1_; have HB := n2_; clear n0_ n1_ n2_; (try clear hb); (try clear hb2); (try clear hk); (try clear hi); (try clear ho0)) | ((with_reducible refine gate_callee (f := 56) rfl ?_); refine goesL_ (some 32) rfl rfl Try.func56 (by kernel_rfl) rfl #[.slice A2 l2.length c2] rfl (by (try simp only [List.map_toArray, List.map_cons, List.map_nil]); first | done | rfl | (simp only [List.length_drop, List.length_take]; rfl)) ?_; (with_reducible refine (laws_toMarkSS.calls k _ _ l2 t321 _ ?side1 ?side2 A8.out).mono ?_); (case side1 => exact Kd.C_below (Kd.C_below HR2.out HB.out) lt_); (case side2 => exact HC2.out); rintro e w14 ⟨v322, rfl, ho0, hb⟩; refine ⟨_, rfl, ?_⟩; obtain ⟨N1_, hq1_, hq2_⟩ := num_SS (Kd.S_below HO320.out lt_) ho0; have n0_ := Aside0.mk (Kd.S_elder' (Kd.S_below HO316.out lt_) (Kd.S_base hq2_) hb); have n1_ := Aside0.mk (Kd.S_below hq1_ hb); have n2_ := Aside0.mk (Kd.S_lower (Kd.S_new' hq2_ (Kd.S_lt (Kd.S_below HO316.out lt_))) (below_size (below_at HB.out))); have n3_ := Aside0.mk (below_step (below_at HB.out) hb); clear HO316; clear HO320; clear HB; have HO316 := n0_; have HO320 := n1_; have HO323 := n2_; have HB := n3_; clear n0_ n1_ n2_ n3_; (try clear hb); (try clear hb2); (try clear hk); (try clear hi); (try clear hq2_); obtain ⟨Ao15, co15, eo15⟩ := Kd.S_slice HO323.out; subst eo15; (try clear hq1_); (try clear hq2_)) | ((with_reducible refine gate_callee (f := 57) rfl ?_); refine goesL_ (some 37) rfl rfl Try.func57 (by kernel_rfl) rfl #[.int .i64 a0, .int .i64 a1, .slice Ao15 t321.length co15] rfl (by (try simp only [List.map_toArray, List.map_cons, List.map_nil]); first | done | rfl | (simp only [List.length_drop, List.length_take]; rfl)) ?_; (with_reducible refine (impl_MadeStory.calls k a0 a1 _ _ t321 t324 t325 _ ?side1 ?side2 A9.out).mono ?_); (case side1 => exact Kd.C_below (Kd.S_reads' HO323.out).2.2 lt_); (case side2 => exact (Kd.S_reads' HO323.out).2.1); rintro e w16 ⟨v326, rfl, ho0, hb⟩; refine ⟨_, rfl, ?_⟩; obtain ⟨N_, hq1_, hq3_, hq2_⟩ := num_SSS (Kd.S_below HO320.out lt_) (Kd.S_below HO323.out lt_) ho0; have n0_ := Aside0.mk (Kd.S_below (Kd.S_below HO316.out lt_) hb); have n1_ := Aside0.mk (Kd.S_elder' hq1_ (Kd.S_base hq2_) hb); have n2_ := Aside0.mk (Kd.S_below hq3_ hb); have n3_ := Aside0.mk (Kd.S_lower (Kd.S_new' hq2_ (Kd.S_lt hq1_)) (below_size (below_at HB.out))); have n4_ := Aside0.mk (below_step (below_at HB.out) hb); clear HO316; clear HO320; clear HO323; clear HB; have HO316 := n0_; have HO320 := n1_; have HO323 := n2_; have HO327 := n3_; have HB := n4_; clear n0_ n1_ n2_ n3_ n4_; (try clear hb); (try clear hb2); (try clear hk); (try clear hi); (try clear hq2_); (try clear hq1_); (try clear hq2_); (try clear hq3_)))
  (try simp only [Act.put, List.setIfInBounds_toArray, List.set_cons_zero, List.set_cons_succ])
  go_cut [48] (fun v48 wc => ∃ (kq : Nat) (x48_9 : Bool), v48 = .bool x48_9 ∧ Aside0 (laws_FnExactMadeStory.j0 kq a0 a1 l2 t317 t318 t321 t324 t325 x48_9 = some r) ∧ Aside0 (kq ≤ k) ∧ Aside0 (Kd.S k83 83 wc w.heap.size (fun k_ => k_ < N1_ ∧ k_ < N_) v319 t317) ∧ Aside0 (Kd.S (Kd.slice 81 k81) 56 wc w.heap.size (fun k_ => N1_ ≤ k_ ∧ k_ < N_) (.slice Ao15 t321.length co15) t321) ∧ Aside0 (Kd.S k83 83 wc w.heap.size (fun k_ => N_ ≤ k_) v326 t324) ∧ Aside0 (Below w.heap.size w wc))
  case first =>
   have H := HC10.out
   clear HC10
   replace H := Option.bind_eq_some_iff.mp H
   obtain ⟨t328, A170, H⟩ := H
   try dsimp only at H
   have A17 := Aside0.mk A170
   clear A170
   by_cases c18 : t328 = true
   ·subst c18
    rw [if_pos rfl] at H
    have H' := Aside0.mk H
    clear H
    obtain ⟨Ao19, co19, eo19⟩ := Kd.S_slice HO327.out
    subst eo19
    obtain ⟨Ao20, co20, eo20⟩ := Kd.S_slice HO320.out
    subst eo20
    go_wp2_with (first | ((with_reducible refine gate_callee (f := 23) rfl ?_); refine goesL_ (some 42) rfl rfl Try.func23 (by kernel_rfl) rfl #[.slice Ao19 t324.length co19, .slice Ao20 t317.length co20] rfl (by (try simp only [List.map_toArray, List.map_cons, List.map_nil]); first | done | rfl | (simp only [List.length_drop, List.length_take]; rfl)) ?_; (with_reducible refine (laws_eqClaimS.calls k _ _ t324 _ _ t317 true _ ?side1 ?side2 ?side3 ?side4 A17.out).mono ?_); (case side1 => exact Kd.C_below (Kd.S_reads' HO327.out).2.2 lt_); (case side2 => exact (Kd.S_reads' HO327.out).2.1); (case side3 => exact Kd.C_below (Kd.S_reads' HO320.out).2.2 lt_); (case side4 => exact (Kd.S_reads' HO320.out).2.1); rintro e w21 ⟨rfl, hb⟩; refine ⟨_, rfl, ?_⟩; have n0_ := Aside0.mk (Kd.S_below (Kd.S_below HO316.out lt_) hb); have n1_ := Aside0.mk (Kd.S_below (Kd.S_below HO320.out lt_) hb); have n2_ := Aside0.mk (Kd.S_below (Kd.S_below HO323.out lt_) hb); have n3_ := Aside0.mk (Kd.S_below (Kd.S_below HO327.out lt_) hb); have n4_ := Aside0.mk (below_step (below_at HB.out) hb); clear HO316; clear HO320; clear HO323; clear HO327; clear HB; have HO316 := n0_; have HO320 := n1_; have HO323 := n2_; have HO327 := n3_; have HB := n4_; clear n0_ n1_ n2_ n3_ n4_; (try clear hb); (try clear hb2); (try clear hk); (try clear hi)))
    go_meet
    case rel => exact ⟨_, ((t325 != t318)), (by first | rfl | (simp; done) | (simp [*]; done)), H', ⟨by first | omega | exact Nat.le_refl _⟩, ⟨Kd.S_below (Kd.S_mono HO320.out (fun k_ h_ => by first | omega | (dsimp only at h_; omega))) lt_⟩, ⟨Kd.S_below (Kd.S_mono HO323.out (fun k_ h_ => by first | omega | (dsimp only at h_; omega))) lt_⟩, ⟨Kd.S_below (Kd.S_mono HO327.out (fun k_ h_ => by first | omega | (dsimp only at h_; omega))) lt_⟩, ⟨below_at HB.out⟩⟩
   ·replace c18 := Bool.eq_false_iff.mpr c18
    subst c18
    rw [if_neg (show ¬ (false = true) by decide)] at H
    have H' := Aside0.mk H
    clear H
    obtain ⟨Ao22, co22, eo22⟩ := Kd.S_slice HO327.out
    subst eo22
    obtain ⟨Ao23, co23, eo23⟩ := Kd.S_slice HO320.out
    subst eo23
    go_wp2_with (first | ((with_reducible refine gate_callee (f := 23) rfl ?_); refine goesL_ (some 42) rfl rfl Try.func23 (by kernel_rfl) rfl #[.slice Ao22 t324.length co22, .slice Ao23 t317.length co23] rfl (by (try simp only [List.map_toArray, List.map_cons, List.map_nil]); first | done | rfl | (simp only [List.length_drop, List.length_take]; rfl)) ?_; (with_reducible refine (laws_eqClaimS.calls k _ _ t324 _ _ t317 false _ ?side1 ?side2 ?side3 ?side4 A17.out).mono ?_); (case side1 => exact Kd.C_below (Kd.S_reads' HO327.out).2.2 lt_); (case side2 => exact (Kd.S_reads' HO327.out).2.1); (case side3 => exact Kd.C_below (Kd.S_reads' HO320.out).2.2 lt_); (case side4 => exact (Kd.S_reads' HO320.out).2.1); rintro e w24 ⟨rfl, hb⟩; refine ⟨_, rfl, ?_⟩; have n0_ := Aside0.mk (Kd.S_below (Kd.S_below HO316.out lt_) hb); have n1_ := Aside0.mk (Kd.S_below (Kd.S_below HO320.out lt_) hb); have n2_ := Aside0.mk (Kd.S_below (Kd.S_below HO323.out lt_) hb); have n3_ := Aside0.mk (Kd.S_below (Kd.S_below HO327.out lt_) hb); have n4_ := Aside0.mk (below_step (below_at HB.out) hb); clear HO316; clear HO320; clear HO323; clear HO327; clear HB; have HO316 := n0_; have HO320 := n1_; have HO323 := n2_; have HO327 := n3_; have HB := n4_; clear n0_ n1_ n2_ n3_ n4_; (try clear hb); (try clear hb2); (try clear hk); (try clear hi)))
    go_meet
    case rel => exact ⟨_, (true), (by first | rfl | (simp; done) | (simp [*]; done)), H', ⟨by first | omega | exact Nat.le_refl _⟩, ⟨Kd.S_below (Kd.S_mono HO320.out (fun k_ h_ => by first | omega | (dsimp only at h_; omega))) lt_⟩, ⟨Kd.S_below (Kd.S_mono HO323.out (fun k_ h_ => by first | omega | (dsimp only at h_; omega))) lt_⟩, ⟨Kd.S_below (Kd.S_mono HO327.out (fun k_ h_ => by first | omega | (dsimp only at h_; omega))) lt_⟩, ⟨below_at HB.out⟩⟩
  case rest =>
   clear HC10
   try clear c1
   try clear c2
   try clear p2
   try clear c5
   try clear c5b0
   try clear c12
   try clear c18
   try clear c23
   obtain ⟨kq, x48_9, rfl, HA, HJ9, HO_8, HO_10, HO_11, HB⟩ := hcut
   cases kq with
   | zero => exact absurd HA.out (by simp [laws_FnExactMadeStory.j0])
   | succ kj9 =>
    have H := HA.out
    clear HA
    simp only [laws_FnExactMadeStory.j0] at H
    by_cases c25 : x48_9 = true
    ·subst c25
     rw [if_pos rfl] at H
     obtain rfl := Option.some.inj H
     go_wp2
     go_ret
     exact ⟨by first | rfl | (simp [errW_none, errW_some] <;> rfl) | (simp [*, errW_none, errW_some] <;> rfl), below_at HB.out⟩
    ·replace c25 := Bool.eq_false_iff.mpr c25
     subst c25
     rw [if_neg (show ¬ (false = true) by decide)] at H
     replace H := Option.bind_eq_some_iff.mp H
     obtain ⟨t329, A260, H⟩ := H
     try dsimp only at H
     have A26 := Aside0.mk A260
     clear A260
     replace H := Option.bind_eq_some_iff.mp H
     obtain ⟨t332, A270, H⟩ := H
     try dsimp only at H
     have A27 := Aside0.mk A270
     clear A270
     by_cases c28 : t332 = true
     ·subst c28
      rw [if_pos rfl] at H
      replace H := Option.bind_eq_some_iff.mp H
      obtain ⟨⟨t333, tX⟩, A290, H⟩ := H
      try dsimp only at H
      have A29 := Aside0.mk A290
      clear A290
      have HC30 := Aside0.mk H
      clear H
      go_upto_region 14 with (first | ((with_reducible refine gate_callee (f := 56) rfl ?_); refine goesL_ (some 51) rfl rfl Try.func56 (by kernel_rfl) rfl #[.slice A2 l2.length c2] rfl (by (try simp only [List.map_toArray, List.map_cons, List.map_nil]); first | done | rfl | (simp only [List.length_drop, List.length_take]; rfl)) ?_; (with_reducible refine (laws_toMarkSS.calls kj9 _ _ l2 t329 _ ?side1 ?side2 A26.out).mono ?_); (case side1 => exact Kd.C_below (Kd.C_below HR2.out HB.out) lt_); (case side2 => exact HC2.out); rintro e w31 ⟨v330, rfl, ho0, hb⟩; refine ⟨_, rfl, ?_⟩; have n0_ := Aside0.mk (Kd.S_below (Kd.S_below HO_8.out lt_) hb); have n1_ := Aside0.mk (Kd.S_elder' (Kd.S_below HO_10.out lt_) (Kd.S_base ho0) hb); have n2_ := Aside0.mk (Kd.S_below (Kd.S_below HO_11.out lt_) hb); have n3_ := Aside0.mk (Kd.S_lower (Kd.S_new' ho0 (Kd.S_lt (Kd.S_below HO_10.out lt_))) (below_size (below_at HB.out))); have n4_ := Aside0.mk (below_step (below_at HB.out) hb); clear HO_8; clear HO_10; clear HO_11; clear HB; have HO_8 := n0_; have HO_10 := n1_; have HO_11 := n2_; have HO331 := n3_; have HB := n4_; clear n0_ n1_ n2_ n3_ n4_; (try clear hb); (try clear hb2); (try clear hk); (try clear hi); (try clear ho0); obtain ⟨Ao32, co32, eo32⟩ := Kd.S_slice HO331.out; subst eo32) | ((with_reducible refine gate_callee (f := 58) rfl ?_); refine goesL_ (some 52) rfl rfl Try.func58 (by kernel_rfl) rfl #[.slice Ao15 t321.length co15, .slice Ao32 t329.length co32] rfl (by (try simp only [List.map_toArray, List.map_cons, List.map_nil]); first | done | rfl | (simp only [List.length_drop, List.length_take]; rfl)) ?_; (with_reducible refine (laws_eqMarkSS.calls kj9 _ _ t321 _ _ t329 true _ ?side1 ?side2 ?side3 ?side4 A27.out).mono ?_); (case side1 => exact Kd.C_below (Kd.S_reads' HO_10.out).2.2 lt_); (case side2 => exact (Kd.S_reads' HO_10.out).2.1); (case side3 => exact Kd.C_below (Kd.S_reads' HO331.out).2.2 lt_); (case side4 => exact (Kd.S_reads' HO331.out).2.1); rintro e w33 ⟨rfl, hb⟩; refine ⟨_, rfl, ?_⟩; have n0_ := Aside0.mk (Kd.S_below (Kd.S_below HO_8.out lt_) hb); have n1_ := Aside0.mk (Kd.S_below (Kd.S_below HO_10.out lt_) hb); have n2_ := Aside0.mk (Kd.S_below (Kd.S_below HO_11.out lt_) hb); have n3_ := Aside0.mk (Kd.S_below (Kd.S_below HO331.out lt_) hb); have n4_ := Aside0.mk (below_step (below_at HB.out) hb); clear HO_8; clear HO_10; clear HO_11; clear HO331; clear HB; have HO_8 := n0_; have HO_10 := n1_; have HO_11 := n2_; have HO331 := n3_; have HB := n4_; clear n0_ n1_ n2_ n3_ n4_; (try clear hb); (try clear hb2); (try clear hk); (try clear hi)) | ((with_reducible refine gate_callee (f := 59) rfl ?_); refine goesL_ (some 56) rfl rfl Try.func59 (by kernel_rfl) rfl #[.slice Ao15 t321.length co15, .int .i64 1] rfl (by (try simp only [List.map_toArray, List.map_cons, List.map_nil]); first | done | rfl) ?_; (with_reducible refine (laws_markMarkSS.calls kj9 (fun k_ => N1_ ≤ k_ ∧ k_ < N_) (.slice Ao15 t321.length co15) t321 1 t333 tX w _ ?side1 ?side2 A29.out).mono ?_); (case side1 => exact (by repeat (first | (with_reducible first | exact HB.out | apply below_alloc | apply pw_below_drewN | apply below_drew1) | exact HB.out))); (case side2 => exact (Kd.S_mono (Kd.S_below HO_10.out lt_) (fun k_ h_ => by first | omega | (dsimp only at h_; omega)))); rintro e wX ⟨rfl, hoM, hBM, hKM⟩; refine ⟨_, rfl, ?_⟩; have nW_ := Aside0.mk (Kd.S_kept (Kd.S_below HO_8.out lt_) hKM (fun k_ h1_ h2_ => by first | omega | (dsimp only at h1_ h2_; omega))); have nG_ := Aside0.mk (Kd.S_kept (Kd.S_below HO_11.out lt_) hKM (fun k_ h1_ h2_ => by first | omega | (dsimp only at h1_ h2_; omega))); have nB_ := Aside0.mk hBM; clear HO_8 HO_11 HB; have HO_8 := nW_; have HO_11 := nG_; have HB := nB_; clear nW_ nG_ nB_ hoM hBM hKM; clear HO331; have HO331 := HO_8; clear HO_10; have HO_10 := HO_8))
      (try simp only [Act.put, List.setIfInBounds_toArray, List.set_cons_zero, List.set_cons_succ])
      go_cut [69] (fun v69 wc => ∃ (kq : Nat) (x69_29 : Bool), v69 = .bool x69_29 ∧ Aside0 (laws_FnExactMadeStory.j1 kq a0 a1 l2 t317 t318 t324 x69_29 = some r) ∧ Aside0 (kq ≤ kj9) ∧ Aside0 (Kd.S k83 83 wc w.heap.size (fun k_ => k_ < N1_ ∧ k_ < N_) v319 t317) ∧ Aside0 (Kd.S k83 83 wc w.heap.size (fun k_ => N_ ≤ k_) v326 t324) ∧ Aside0 (Below w.heap.size w wc))
      case first =>
       have H := HC30.out
       clear HC30
       by_cases c34 : t333 < 0
       ·rw [if_pos c34] at H
        have c34b0 : decide (t333 < 0) = true := decide_eq_true c34
        clear c34
        (first | rw [c34b0] | (simp only [i64_w, i32_w]; rw [c34b0]) | skip)
        have H' := Aside0.mk H
        clear H
        go_wp2
        go_meet
        case rel => exact ⟨_, (true), (by first | rfl | (simp; done) | (simp [*]; done)), H', ⟨by have := HJ9.out; first | omega | exact Nat.le_refl _⟩, ⟨Kd.S_below (Kd.S_mono HO_8.out (fun k_ h_ => by first | omega | (dsimp only at h_; omega))) lt_⟩, ⟨Kd.S_below (Kd.S_mono HO_11.out (fun k_ h_ => by first | omega | (dsimp only at h_; omega))) lt_⟩, ⟨below_at HB.out⟩⟩
       ·rw [if_neg c34] at H
        have c34b0 : decide (t333 < 0) = false := decide_eq_false c34
        clear c34
        (first | rw [c34b0] | (simp only [i64_w, i32_w]; rw [c34b0]) | skip)
        replace H := Option.bind_eq_some_iff.mp H
        obtain ⟨t334, A350, H⟩ := H
        try dsimp only at H
        have A35 := Aside0.mk A350
        clear A350
        by_cases c36 : t334 = true
        ·subst c36
         rw [if_pos rfl] at H
         have H' := Aside0.mk H
         clear H
         obtain ⟨Ao37, co37, eo37⟩ := Kd.S_slice HO_11.out
         subst eo37
         obtain ⟨Ao38, co38, eo38⟩ := Kd.S_slice HO_8.out
         subst eo38
         go_wp2_with (first | (go_at_call 23; (with_reducible refine (laws_eqClaimS.calls kj9 _ _ t324 _ _ t317 true _ ?side1 ?side2 ?side3 ?side4 A35.out).mono ?_); (case side1 => exact Kd.C_below (Kd.S_reads' HO_11.out).2.2 lt_); (case side2 => exact (Kd.S_reads' HO_11.out).2.1); (case side3 => exact Kd.C_below (Kd.S_reads' HO_8.out).2.2 lt_); (case side4 => exact (Kd.S_reads' HO_8.out).2.1); rintro e w39 ⟨rfl, hb⟩; have n0_ := Aside0.mk (Kd.S_below (Kd.S_below HO_8.out lt_) hb); have n1_ := Aside0.mk (Kd.S_below (Kd.S_below HO_10.out lt_) hb); have n2_ := Aside0.mk (Kd.S_below (Kd.S_below HO_11.out lt_) hb); have n3_ := Aside0.mk (Kd.S_below (Kd.S_below HO331.out lt_) hb); have n4_ := Aside0.mk (below_step (below_at HB.out) hb); clear HO_8; clear HO_10; clear HO_11; clear HO331; clear HB; have HO_8 := n0_; have HO_10 := n1_; have HO_11 := n2_; have HO331 := n3_; have HB := n4_; clear n0_ n1_ n2_ n3_ n4_; (try clear hb); (try clear hb2); (try clear hk); (try clear hi)))
         go_meet
         case rel => exact ⟨_, ((t325 != t318)), (by first | rfl | (simp; done) | (simp [*]; done)), H', ⟨by have := HJ9.out; first | omega | exact Nat.le_refl _⟩, ⟨Kd.S_below (Kd.S_mono HO_8.out (fun k_ h_ => by first | omega | (dsimp only at h_; omega))) lt_⟩, ⟨Kd.S_below (Kd.S_mono HO_11.out (fun k_ h_ => by first | omega | (dsimp only at h_; omega))) lt_⟩, ⟨below_at HB.out⟩⟩
        ·replace c36 := Bool.eq_false_iff.mpr c36
         subst c36
         rw [if_neg (show ¬ (false = true) by decide)] at H
         have H' := Aside0.mk H
         clear H
         obtain ⟨Ao40, co40, eo40⟩ := Kd.S_slice HO_11.out
         subst eo40
         obtain ⟨Ao41, co41, eo41⟩ := Kd.S_slice HO_8.out
         subst eo41
         go_wp2_with (first | (go_at_call 23; (with_reducible refine (laws_eqClaimS.calls kj9 _ _ t324 _ _ t317 false _ ?side1 ?side2 ?side3 ?side4 A35.out).mono ?_); (case side1 => exact Kd.C_below (Kd.S_reads' HO_11.out).2.2 lt_); (case side2 => exact (Kd.S_reads' HO_11.out).2.1); (case side3 => exact Kd.C_below (Kd.S_reads' HO_8.out).2.2 lt_); (case side4 => exact (Kd.S_reads' HO_8.out).2.1); rintro e w42 ⟨rfl, hb⟩; have n0_ := Aside0.mk (Kd.S_below (Kd.S_below HO_8.out lt_) hb); have n1_ := Aside0.mk (Kd.S_below (Kd.S_below HO_10.out lt_) hb); have n2_ := Aside0.mk (Kd.S_below (Kd.S_below HO_11.out lt_) hb); have n3_ := Aside0.mk (Kd.S_below (Kd.S_below HO331.out lt_) hb); have n4_ := Aside0.mk (below_step (below_at HB.out) hb); clear HO_8; clear HO_10; clear HO_11; clear HO331; clear HB; have HO_8 := n0_; have HO_10 := n1_; have HO_11 := n2_; have HO331 := n3_; have HB := n4_; clear n0_ n1_ n2_ n3_ n4_; (try clear hb); (try clear hb2); (try clear hk); (try clear hi)))
         go_meet
         case rel => exact ⟨_, (true), (by first | rfl | (simp; done) | (simp [*]; done)), H', ⟨by have := HJ9.out; first | omega | exact Nat.le_refl _⟩, ⟨Kd.S_below (Kd.S_mono HO_8.out (fun k_ h_ => by first | omega | (dsimp only at h_; omega))) lt_⟩, ⟨Kd.S_below (Kd.S_mono HO_11.out (fun k_ h_ => by first | omega | (dsimp only at h_; omega))) lt_⟩, ⟨below_at HB.out⟩⟩
      case rest =>
       clear HC30
       try clear c1
       try clear c2
       try clear p2
       try clear c3
       try clear c5
       try clear c5b0
       try clear c12
       try clear c18
       try clear c23
       try clear c25
       try clear c28
       try clear c34
       try clear c34b0
       try clear c36
       try clear p2
       obtain ⟨kq, x69_29, rfl, HA, HJ29, HO_8, HO_11, HB⟩ := hcut
       cases kq with
       | zero => exact absurd HA.out (by simp [laws_FnExactMadeStory.j1])
       | succ kj29 =>
        have H := HA.out
        clear HA
        simp only [laws_FnExactMadeStory.j1] at H
        by_cases c43 : x69_29 = true
        ·subst c43
         rw [if_pos rfl] at H
         obtain rfl := Option.some.inj H
         go_wp2
         go_ret
         exact ⟨by first | rfl | (simp [errW_none, errW_some] <;> rfl) | (simp [*, errW_none, errW_some] <;> rfl), below_at HB.out⟩
        ·replace c43 := Bool.eq_false_iff.mpr c43
         subst c43
         rw [if_neg (show ¬ (false = true) by decide)] at H
         replace H := Option.bind_eq_some_iff.mp H
         obtain ⟨⟨t335, tM⟩, A440, H⟩ := H
         try dsimp only at H
         have A44 := Aside0.mk A440
         clear A440
         replace H := Option.bind_eq_some_iff.mp H
         obtain ⟨t336, A450, H⟩ := H
         try dsimp only at H
         have A45 := Aside0.mk A450
         clear A450
         by_cases c46 : t336 < 0
         ·rw [if_pos c46] at H
          have c46b0 : decide (t336 < 0) = true := decide_eq_true c46
          clear c46
          obtain rfl := Option.some.inj H


          go_wp2_with (first | ((with_reducible refine gate_callee (f := 26) rfl ?_); refine goesL_ (some 72) rfl rfl Try.func26 (by kernel_rfl) rfl #[v326, .int .i64 1] rfl (by (try simp only [List.map_toArray, List.map_cons, List.map_nil]); first | done | rfl) ?_; (with_reducible refine (laws_markClaimS.calls kj29 (fun k_ => N_ ≤ k_) v326 t324 1 t335 tM w _ ?side1 ?side2 A44.out).mono ?_); (case side1 => exact (by repeat (first | (with_reducible first | exact HB.out | apply below_alloc | apply pw_below_drewN | apply below_drew1) | exact HB.out))); (case side2 => exact (Kd.S_mono (Kd.S_below HO_11.out lt_) (fun k_ h_ => by first | omega | (dsimp only at h_; omega)))); rintro e wG ⟨rfl, hoM, hBM, hKM⟩; refine ⟨_, rfl, ?_⟩; have nW_ := Aside0.mk (Kd.S_kept (Kd.S_below HO_8.out lt_) hKM (fun k_ h1_ h2_ => by first | omega | (dsimp only at h1_ h2_; omega))); have nM_ := Aside0.mk (Kd.S_mono (ok' := fun _ => True) hoM (fun _ _ => trivial)); have nB_ := Aside0.mk hBM; clear HO_8 HO_11 HB; have HO_8 := nW_; have HO_11 := nM_; have HB := nB_; clear nW_ nM_ nB_ hoM hBM hKM; obtain ⟨Ao47, co47, eo47⟩ := Kd.S_slice HO_11.out; subst eo47) | ((with_reducible refine gate_callee (f := 27) rfl ?_); refine goesL_ (some 75) rfl rfl Try.func27 (by kernel_rfl) rfl #[.slice Ao47 tM.length co47, .int .i64 1] rfl (by (try simp only [List.map_toArray, List.map_cons, List.map_nil]); first | done | rfl | (simp only [List.length_drop, List.length_take]; rfl)) ?_; (with_reducible refine (laws_heldClaimS.calls kj29 _ _ tM 1 t336 _ ?side1 ?side2 A45.out).mono ?_); (case side1 => exact Kd.C_below (Kd.S_reads' HO_11.out).2.2 lt_); (case side2 => exact (Kd.S_reads' HO_11.out).2.1); rintro e w' ⟨rfl, ⟨nd, rfl⟩⟩; refine ⟨_, rfl, ?_⟩))
          go_ret
          exact ⟨by first | rfl | (simp [errW_none, errW_some] <;> rfl) | (simp [*, errW_none, errW_some] <;> rfl), below_at HB.out⟩
         ·rw [if_neg c46] at H
          have c46b0 : decide (t336 < 0) = false := decide_eq_false c46
          clear c46
          by_cases c48 : t336 = t335
          ·rw [if_pos c48] at H
           have c48b0 : (t336 == t335) = true := beq_iff_eq.mpr c48
           have c48b1 : (t336 != t335) = false := bne_eq_false_iff_eq.mpr c48
           clear c48
           replace H := Option.bind_eq_some_iff.mp H
           obtain ⟨t337, A490, H⟩ := H
           try dsimp only at H
           have A49 := Aside0.mk A490
           clear A490
           replace H := Option.bind_eq_some_iff.mp H
           obtain ⟨⟨t340, t341⟩, A500, H⟩ := H
           try dsimp only at H
           have A50 := Aside0.mk A500
           clear A500
           have HC51 := Aside0.mk H
           clear H


           go_upto_region 25 with (first | ((with_reducible refine gate_callee (f := 26) rfl ?_); refine goesL_ (some 72) rfl rfl Try.func26 (by kernel_rfl) rfl #[v326, .int .i64 1] rfl (by (try simp only [List.map_toArray, List.map_cons, List.map_nil]); first | done | rfl) ?_; (with_reducible refine (laws_markClaimS.calls kj29 (fun k_ => N_ ≤ k_) v326 t324 1 t335 tM w _ ?side1 ?side2 A44.out).mono ?_); (case side1 => exact (by repeat (first | (with_reducible first | exact HB.out | apply below_alloc | apply pw_below_drewN | apply below_drew1) | exact HB.out))); (case side2 => exact (Kd.S_mono (Kd.S_below HO_11.out lt_) (fun k_ h_ => by first | omega | (dsimp only at h_; omega)))); rintro e wG ⟨rfl, hoM, hBM, hKM⟩; refine ⟨_, rfl, ?_⟩; have nW_ := Aside0.mk (Kd.S_kept (Kd.S_below HO_8.out lt_) hKM (fun k_ h1_ h2_ => by first | omega | (dsimp only at h1_ h2_; omega))); have nM_ := Aside0.mk (Kd.S_mono (ok' := fun _ => True) hoM (fun _ _ => trivial)); have nB_ := Aside0.mk hBM; clear HO_8 HO_11 HB; have HO_8 := nW_; have HO_11 := nM_; have HB := nB_; clear nW_ nM_ nB_ hoM hBM hKM; obtain ⟨Ao52, co52, eo52⟩ := Kd.S_slice HO_11.out; subst eo52) | ((with_reducible refine gate_callee (f := 27) rfl ?_); refine goesL_ (some 75) rfl rfl Try.func27 (by kernel_rfl) rfl #[.slice Ao52 tM.length co52, .int .i64 1] rfl (by (try simp only [List.map_toArray, List.map_cons, List.map_nil]); first | done | rfl | (simp only [List.length_drop, List.length_take]; rfl)) ?_; (with_reducible refine (laws_heldClaimS.calls kj29 _ _ tM 1 t336 _ ?side1 ?side2 A45.out).mono ?_); (case side1 => exact Kd.C_below (Kd.S_reads' HO_11.out).2.2 lt_); (case side2 => exact (Kd.S_reads' HO_11.out).2.1); rintro e w' ⟨rfl, ⟨nd, rfl⟩⟩; refine ⟨_, rfl, ?_⟩) | ((with_reducible refine gate_callee (f := 56) rfl ?_); refine goesL_ (some 85) rfl rfl Try.func56 (by kernel_rfl) rfl #[.slice A2 l2.length c2] rfl (by (try simp only [List.map_toArray, List.map_cons, List.map_nil]); first | done | rfl | (simp only [List.length_drop, List.length_take]; rfl)) ?_; (with_reducible refine (laws_toMarkSS.calls kj29 _ _ l2 t337 _ ?side1 ?side2 A49.out).mono ?_); (case side1 => exact (Kd.C_below HR2.out (below_at HB.out))); (case side2 => exact HC2.out); rintro e w53 ⟨v338, rfl, ho0, hb⟩; refine ⟨_, rfl, ?_⟩; have n0_ := Aside0.mk (Kd.S_below (Kd.S_below HO_8.out lt_) hb); have n1_ := Aside0.mk (Kd.S_below (Kd.S_below HO_11.out lt_) hb); have n2_ := Aside0.mk (Kd.S_lower ho0 (below_size (below_at HB.out))); have n3_ := Aside0.mk (below_step (below_at HB.out) hb); clear HO_8; clear HO_11; clear HB; have HO_8 := n0_; have HO_11 := n1_; have HO339 := n2_; have HB := n3_; clear n0_ n1_ n2_ n3_; (try clear hb); (try clear hb2); (try clear hk); (try clear hi); (try clear ho0); obtain ⟨Ao54, co54, eo54⟩ := Kd.S_slice HO339.out; subst eo54) | ((with_reducible refine gate_callee (f := 57) rfl ?_); refine goesL_ (some 86) rfl rfl Try.func57 (by kernel_rfl) rfl #[.int .i64 a0, .int .i64 a1, .slice Ao54 t337.length co54] rfl (by (try simp only [List.map_toArray, List.map_cons, List.map_nil]); first | done | rfl | (simp only [List.length_drop, List.length_take]; rfl)) ?_; (with_reducible refine (impl_MadeStory.calls kj29 a0 a1 _ _ t337 t340 t341 _ ?side1 ?side2 A50.out).mono ?_); (case side1 => exact Kd.C_below (Kd.S_reads' HO339.out).2.2 lt_); (case side2 => exact (Kd.S_reads' HO339.out).2.1); rintro e w55 ⟨v342, rfl, ho0, hb⟩; refine ⟨_, rfl, ?_⟩; have n0_ := Aside0.mk (Kd.S_elder' (Kd.S_below HO_8.out lt_) (Kd.S_base ho0) hb); have n1_ := Aside0.mk (Kd.S_elder' (Kd.S_below HO_11.out lt_) (Kd.S_base ho0) hb); have n2_ := Aside0.mk (Kd.S_below (Kd.S_below HO339.out lt_) hb); have n3_ := Aside0.mk (Kd.S_lower (Kd.S_new' (Kd.S_new' ho0 (Kd.S_lt (Kd.S_below HO_8.out lt_))) (Kd.S_lt (Kd.S_below HO_11.out lt_))) (below_size (below_at HB.out))); have n4_ := Aside0.mk (below_step (below_at HB.out) hb); clear HO_8; clear HO_11; clear HO339; clear HB; have HO_8 := n0_; have HO_11 := n1_; have HO339 := n2_; have HO343 := n3_; have HB := n4_; clear n0_ n1_ n2_ n3_ n4_; (try clear hb); (try clear hb2); (try clear hk); (try clear hi); (try clear ho0)))
           (try simp only [Act.put, List.setIfInBounds_toArray, List.set_cons_zero, List.set_cons_succ])
           go_cut [97] (fun v97 wc => ∃ (kq : Nat) (x97_50 : Bool), v97 = .bool x97_50 ∧ Aside0 (laws_FnExactMadeStory.j2 kq tM t335 x97_50 = some r) ∧ Aside0 (kq ≤ kj29) ∧ Aside0 (Kd.S k83 83 wc w.heap.size (fun _ => True) (.slice Ao52 tM.length co52) tM) ∧ Aside0 (Below w.heap.size w wc))
           case first =>
            have H := HC51.out
            clear HC51
            replace H := Option.bind_eq_some_iff.mp H
            obtain ⟨t344, A560, H⟩ := H
            try dsimp only at H
            have A56 := Aside0.mk A560
            clear A560
            by_cases c57 : t344 = true
            ·subst c57
             rw [if_pos rfl] at H
             have H' := Aside0.mk H
             clear H
             obtain ⟨Ao58, co58, eo58⟩ := Kd.S_slice HO343.out
             subst eo58
             obtain ⟨Ao59, co59, eo59⟩ := Kd.S_slice HO_8.out
             subst eo59
             go_wp2_with (first | ((with_reducible refine gate_callee (f := 23) rfl ?_); refine goesL_ (some 91) rfl rfl Try.func23 (by kernel_rfl) rfl #[.slice Ao58 t340.length co58, .slice Ao59 t317.length co59] rfl (by (try simp only [List.map_toArray, List.map_cons, List.map_nil]); first | done | rfl | (simp only [List.length_drop, List.length_take]; rfl)) ?_; (with_reducible refine (laws_eqClaimS.calls kj29 _ _ t340 _ _ t317 true _ ?side1 ?side2 ?side3 ?side4 A56.out).mono ?_); (case side1 => exact Kd.C_below (Kd.S_reads' HO343.out).2.2 lt_); (case side2 => exact (Kd.S_reads' HO343.out).2.1); (case side3 => exact Kd.C_below (Kd.S_reads' HO_8.out).2.2 lt_); (case side4 => exact (Kd.S_reads' HO_8.out).2.1); rintro e w60 ⟨rfl, hb⟩; refine ⟨_, rfl, ?_⟩; have n0_ := Aside0.mk (Kd.S_below (Kd.S_below HO_8.out lt_) hb); have n1_ := Aside0.mk (Kd.S_below (Kd.S_below HO_11.out lt_) hb); have n2_ := Aside0.mk (Kd.S_below (Kd.S_below HO339.out lt_) hb); have n3_ := Aside0.mk (Kd.S_below (Kd.S_below HO343.out lt_) hb); have n4_ := Aside0.mk (below_step (below_at HB.out) hb); clear HO_8; clear HO_11; clear HO339; clear HO343; clear HB; have HO_8 := n0_; have HO_11 := n1_; have HO339 := n2_; have HO343 := n3_; have HB := n4_; clear n0_ n1_ n2_ n3_ n4_; (try clear hb); (try clear hb2); (try clear hk); (try clear hi)))
             go_meet
             case rel => exact ⟨_, ((t341 != t318)), (by first | rfl | (simp; done) | (simp [*]; done)), H', ⟨by have := HJ9.out; have := HJ29.out; first | omega | exact Nat.le_refl _⟩, ⟨Kd.S_below (Kd.S_mono HO_11.out (fun _ hk => trivial)) lt_⟩, ⟨below_at HB.out⟩⟩
            ·replace c57 := Bool.eq_false_iff.mpr c57
             subst c57
             rw [if_neg (show ¬ (false = true) by decide)] at H
             have H' := Aside0.mk H
             clear H
             obtain ⟨Ao61, co61, eo61⟩ := Kd.S_slice HO343.out
             subst eo61
             obtain ⟨Ao62, co62, eo62⟩ := Kd.S_slice HO_8.out
             subst eo62
             go_wp2_with (first | ((with_reducible refine gate_callee (f := 23) rfl ?_); refine goesL_ (some 91) rfl rfl Try.func23 (by kernel_rfl) rfl #[.slice Ao61 t340.length co61, .slice Ao62 t317.length co62] rfl (by (try simp only [List.map_toArray, List.map_cons, List.map_nil]); first | done | rfl | (simp only [List.length_drop, List.length_take]; rfl)) ?_; (with_reducible refine (laws_eqClaimS.calls kj29 _ _ t340 _ _ t317 false _ ?side1 ?side2 ?side3 ?side4 A56.out).mono ?_); (case side1 => exact Kd.C_below (Kd.S_reads' HO343.out).2.2 lt_); (case side2 => exact (Kd.S_reads' HO343.out).2.1); (case side3 => exact Kd.C_below (Kd.S_reads' HO_8.out).2.2 lt_); (case side4 => exact (Kd.S_reads' HO_8.out).2.1); rintro e w63 ⟨rfl, hb⟩; refine ⟨_, rfl, ?_⟩; have n0_ := Aside0.mk (Kd.S_below (Kd.S_below HO_8.out lt_) hb); have n1_ := Aside0.mk (Kd.S_below (Kd.S_below HO_11.out lt_) hb); have n2_ := Aside0.mk (Kd.S_below (Kd.S_below HO339.out lt_) hb); have n3_ := Aside0.mk (Kd.S_below (Kd.S_below HO343.out lt_) hb); have n4_ := Aside0.mk (below_step (below_at HB.out) hb); clear HO_8; clear HO_11; clear HO339; clear HO343; clear HB; have HO_8 := n0_; have HO_11 := n1_; have HO339 := n2_; have HO343 := n3_; have HB := n4_; clear n0_ n1_ n2_ n3_ n4_; (try clear hb); (try clear hb2); (try clear hk); (try clear hi)))
             go_meet
             case rel => exact ⟨_, (true), (by first | rfl | (simp; done) | (simp [*]; done)), H', ⟨by have := HJ9.out; have := HJ29.out; first | omega | exact Nat.le_refl _⟩, ⟨Kd.S_below (Kd.S_mono HO_11.out (fun _ hk => trivial)) lt_⟩, ⟨below_at HB.out⟩⟩
           case rest =>
            clear HC51
            try clear c1
            try clear c2
            try clear p2
            try clear c3
            try clear c4
            try clear c5
            try clear c5b0
            try clear c12
            try clear c18
            try clear c23
            try clear c25
            try clear c27
            try clear c28
            try clear c34
            try clear c34b0
            try clear c36
            try clear c43
            try clear c46
            try clear c46b0
            try clear c48
            try clear c48b0
            try clear c48b1
            try clear c54
            try clear c55
            try clear c56
            try clear c57
            try clear c58
            try clear p2
            obtain ⟨kq, x97_50, rfl, HA, HJ50, HO_11, HB⟩ := hcut
            cases kq with
            | zero => exact absurd HA.out (by simp [laws_FnExactMadeStory.j2])
            | succ kj50 =>
             have H := HA.out
             clear HA
             simp only [laws_FnExactMadeStory.j2] at H
             by_cases c64 : x97_50 = true
             ·subst c64
              rw [if_pos rfl] at H
              obtain rfl := Option.some.inj H
              go_wp2
              go_ret
              exact ⟨by first | rfl | (simp [errW_none, errW_some] <;> rfl) | (simp [*, errW_none, errW_some] <;> rfl), below_at HB.out⟩
             ·replace c64 := Bool.eq_false_iff.mpr c64
              subst c64
              rw [if_neg (show ¬ (false = true) by decide)] at H
              replace H := Option.bind_eq_some_iff.mp H
              obtain ⟨t345, A650, H⟩ := H
              try dsimp only at H
              have A65 := Aside0.mk A650
              clear A650
              by_cases c66 : t345 < 0
              ·rw [if_pos c66] at H
               have c66b0 : decide (t345 < 0) = true := decide_eq_true c66
               clear c66
               obtain rfl := Option.some.inj H
               go_wp2_with (first | ((with_reducible refine gate_callee (f := 27) rfl ?_); refine goesL_ (some 100) rfl rfl Try.func27 (by kernel_rfl) rfl #[.slice Ao52 tM.length co52, .int .i64 1] rfl (by (try simp only [List.map_toArray, List.map_cons, List.map_nil]); first | done | rfl | (simp only [List.length_drop, List.length_take]; rfl)) ?_; (with_reducible refine (laws_heldClaimS.calls kj50 _ _ tM 1 t345 _ ?side1 ?side2 A65.out).mono ?_); (case side1 => exact Kd.C_below (Kd.S_reads' HO_11.out).2.2 lt_); (case side2 => exact (Kd.S_reads' HO_11.out).2.1); rintro e w' ⟨rfl, ⟨nd, rfl⟩⟩; refine ⟨_, rfl, ?_⟩))
               go_ret
               exact ⟨by first | rfl | (simp [errW_none, errW_some] <;> rfl) | (simp [*, errW_none, errW_some] <;> rfl), below_at HB.out⟩
              ·rw [if_neg c66] at H
               have c66b0 : decide (t345 < 0) = false := decide_eq_false c66
               clear c66
               by_cases c67 : t345 = t335
               ·rw [if_pos c67] at H
                have c67b0 : (t345 == t335) = true := beq_iff_eq.mpr c67
                have c67b1 : (t345 != t335) = false := bne_eq_false_iff_eq.mpr c67
                clear c67
                obtain rfl := Option.some.inj H
                go_wp2_with (first | ((with_reducible refine gate_callee (f := 27) rfl ?_); refine goesL_ (some 100) rfl rfl Try.func27 (by kernel_rfl) rfl #[.slice Ao52 tM.length co52, .int .i64 1] rfl (by (try simp only [List.map_toArray, List.map_cons, List.map_nil]); first | done | rfl | (simp only [List.length_drop, List.length_take]; rfl)) ?_; (with_reducible refine (laws_heldClaimS.calls kj50 _ _ tM 1 t345 _ ?side1 ?side2 A65.out).mono ?_); (case side1 => exact Kd.C_below (Kd.S_reads' HO_11.out).2.2 lt_); (case side2 => exact (Kd.S_reads' HO_11.out).2.1); rintro e w' ⟨rfl, ⟨nd, rfl⟩⟩; refine ⟨_, rfl, ?_⟩))
                go_ret
                exact ⟨by first | rfl | (simp [errW_none, errW_some] <;> rfl) | (simp [*, errW_none, errW_some] <;> rfl), below_at HB.out⟩
               ·rw [if_neg c67] at H
                have c67b0 : (t345 == t335) = false := beq_eq_false_iff_ne.mpr c67
                have c67b1 : (t345 != t335) = true := bne_iff_ne.mpr c67
                obtain rfl := Option.some.inj H
                go_wp2_with (first | ((with_reducible refine gate_callee (f := 27) rfl ?_); refine goesL_ (some 100) rfl rfl Try.func27 (by kernel_rfl) rfl #[.slice Ao52 tM.length co52, .int .i64 1] rfl (by (try simp only [List.map_toArray, List.map_cons, List.map_nil]); first | done | rfl | (simp only [List.length_drop, List.length_take]; rfl)) ?_; (with_reducible refine (laws_heldClaimS.calls kj50 _ _ tM 1 t345 _ ?side1 ?side2 A65.out).mono ?_); (case side1 => exact Kd.C_below (Kd.S_reads' HO_11.out).2.2 lt_); (case side2 => exact (Kd.S_reads' HO_11.out).2.1); rintro e w' ⟨rfl, ⟨nd, rfl⟩⟩; refine ⟨_, rfl, ?_⟩))
                go_ret
                exact ⟨by first | rfl | (simp [errW_none, errW_some] <;> rfl) | (simp [*, errW_none, errW_some] <;> rfl), below_at HB.out⟩
          ·rw [if_neg c48] at H
           have c48b0 : (t336 == t335) = false := beq_eq_false_iff_ne.mpr c48
           have c48b1 : (t336 != t335) = true := bne_iff_ne.mpr c48
           obtain rfl := Option.some.inj H


           go_wp2_with (first | ((with_reducible refine gate_callee (f := 26) rfl ?_); refine goesL_ (some 72) rfl rfl Try.func26 (by kernel_rfl) rfl #[v326, .int .i64 1] rfl (by (try simp only [List.map_toArray, List.map_cons, List.map_nil]); first | done | rfl) ?_; (with_reducible refine (laws_markClaimS.calls kj29 (fun k_ => N_ ≤ k_) v326 t324 1 t335 tM w _ ?side1 ?side2 A44.out).mono ?_); (case side1 => exact (by repeat (first | (with_reducible first | exact HB.out | apply below_alloc | apply pw_below_drewN | apply below_drew1) | exact HB.out))); (case side2 => exact (Kd.S_mono (Kd.S_below HO_11.out lt_) (fun k_ h_ => by first | omega | (dsimp only at h_; omega)))); rintro e wG ⟨rfl, hoM, hBM, hKM⟩; refine ⟨_, rfl, ?_⟩; have nW_ := Aside0.mk (Kd.S_kept (Kd.S_below HO_8.out lt_) hKM (fun k_ h1_ h2_ => by first | omega | (dsimp only at h1_ h2_; omega))); have nM_ := Aside0.mk (Kd.S_mono (ok' := fun _ => True) hoM (fun _ _ => trivial)); have nB_ := Aside0.mk hBM; clear HO_8 HO_11 HB; have HO_8 := nW_; have HO_11 := nM_; have HB := nB_; clear nW_ nM_ nB_ hoM hBM hKM; obtain ⟨Ao68, co68, eo68⟩ := Kd.S_slice HO_11.out; subst eo68) | ((with_reducible refine gate_callee (f := 27) rfl ?_); refine goesL_ (some 75) rfl rfl Try.func27 (by kernel_rfl) rfl #[.slice Ao68 tM.length co68, .int .i64 1] rfl (by (try simp only [List.map_toArray, List.map_cons, List.map_nil]); first | done | rfl | (simp only [List.length_drop, List.length_take]; rfl)) ?_; (with_reducible refine (laws_heldClaimS.calls kj29 _ _ tM 1 t336 _ ?side1 ?side2 A45.out).mono ?_); (case side1 => exact Kd.C_below (Kd.S_reads' HO_11.out).2.2 lt_); (case side2 => exact (Kd.S_reads' HO_11.out).2.1); rintro e w' ⟨rfl, ⟨nd, rfl⟩⟩; refine ⟨_, rfl, ?_⟩))
           go_ret
           exact ⟨by first | rfl | (simp [errW_none, errW_some] <;> rfl) | (simp [*, errW_none, errW_some] <;> rfl), below_at HB.out⟩
     ·replace c28 := Bool.eq_false_iff.mpr c28
      subst c28
      rw [if_neg (show ¬ (false = true) by decide)] at H
      obtain rfl := Option.some.inj H
      go_wp2_with (first | ((with_reducible refine gate_callee (f := 56) rfl ?_); refine goesL_ (some 51) rfl rfl Try.func56 (by kernel_rfl) rfl #[.slice A2 l2.length c2] rfl (by (try simp only [List.map_toArray, List.map_cons, List.map_nil]); first | done | rfl | (simp only [List.length_drop, List.length_take]; rfl)) ?_; (with_reducible refine (laws_toMarkSS.calls kj9 _ _ l2 t329 _ ?side1 ?side2 A26.out).mono ?_); (case side1 => exact Kd.C_below (Kd.C_below HR2.out HB.out) lt_); (case side2 => exact HC2.out); rintro e w69 ⟨v330, rfl, ho0, hb⟩; refine ⟨_, rfl, ?_⟩; have n0_ := Aside0.mk (Kd.S_below (Kd.S_below HO_8.out lt_) hb); have n1_ := Aside0.mk (Kd.S_elder' (Kd.S_below HO_10.out lt_) (Kd.S_base ho0) hb); have n2_ := Aside0.mk (Kd.S_below (Kd.S_below HO_11.out lt_) hb); have n3_ := Aside0.mk (Kd.S_lower (Kd.S_new' ho0 (Kd.S_lt (Kd.S_below HO_10.out lt_))) (below_size (below_at HB.out))); have n4_ := Aside0.mk (below_step (below_at HB.out) hb); clear HO_8; clear HO_10; clear HO_11; clear HB; have HO_8 := n0_; have HO_10 := n1_; have HO_11 := n2_; have HO331 := n3_; have HB := n4_; clear n0_ n1_ n2_ n3_ n4_; (try clear hb); (try clear hb2); (try clear hk); (try clear hi); (try clear ho0); obtain ⟨Ao70, co70, eo70⟩ := Kd.S_slice HO331.out; subst eo70) | ((with_reducible refine gate_callee (f := 58) rfl ?_); refine goesL_ (some 52) rfl rfl Try.func58 (by kernel_rfl) rfl #[.slice Ao15 t321.length co15, .slice Ao70 t329.length co70] rfl (by (try simp only [List.map_toArray, List.map_cons, List.map_nil]); first | done | rfl | (simp only [List.length_drop, List.length_take]; rfl)) ?_; (with_reducible refine (laws_eqMarkSS.calls kj9 _ _ t321 _ _ t329 false _ ?side1 ?side2 ?side3 ?side4 A27.out).mono ?_); (case side1 => exact Kd.C_below (Kd.S_reads' HO_10.out).2.2 lt_); (case side2 => exact (Kd.S_reads' HO_10.out).2.1); (case side3 => exact Kd.C_below (Kd.S_reads' HO331.out).2.2 lt_); (case side4 => exact (Kd.S_reads' HO331.out).2.1); rintro e w71 ⟨rfl, hb⟩; refine ⟨_, rfl, ?_⟩; have n0_ := Aside0.mk (Kd.S_below (Kd.S_below HO_8.out lt_) hb); have n1_ := Aside0.mk (Kd.S_below (Kd.S_below HO_10.out lt_) hb); have n2_ := Aside0.mk (Kd.S_below (Kd.S_below HO_11.out lt_) hb); have n3_ := Aside0.mk (Kd.S_below (Kd.S_below HO331.out lt_) hb); have n4_ := Aside0.mk (below_step (below_at HB.out) hb); clear HO_8; clear HO_10; clear HO_11; clear HO331; clear HB; have HO_8 := n0_; have HO_10 := n1_; have HO_11 := n2_; have HO331 := n3_; have HB := n4_; clear n0_ n1_ n2_ n3_ n4_; (try clear hb); (try clear hb2); (try clear hk); (try clear hi)))
      go_ret
      exact ⟨by first | rfl | (simp [errW_none, errW_some] <;> rfl) | (simp [*, errW_none, errW_some] <;> rfl), below_at HB.out⟩

/-- THE ONE PURE STATEMENT of laws_FnExactMadeStory. -/
def laws_FnExactMadeStory.Pure : Prop := ∀ (a0 : Int) (a1 : Int) (l2 : List (List (S107))), ((Lit.int .i64 a0).wf = true) → ((Lit.int .i64 a1).wf = true) → (l2.length ≤ maxLen ∧ ∀ y0 ∈ l2, y0.length ≤ maxLen ∧ ∀ y1 ∈ y0, ((Lit.int .i64 y1.f0).wf = true) ∧ ((Lit.int .i64 y1.f1).wf = true)) → ∃ k, laws_FnExactMadeStory.f k a0 a1 l2 = some true
theorem laws_FnExactMadeStory.walk (P : laws_FnExactMadeStory.Pure) (a0 : Int) (a1 : Int) (A2 : Option Addr) (c2 : Nat) (l2 : List (List (S107))) (w : World) (hr2 : Kd.C (Kd.slice 107 k107) w A2 l2.length l2) (hc2 : l2.length ≤ c2) (wf0_ : (Lit.int .i64 a0).wf = true) (wf1_ : (Lit.int .i64 a1).wf = true) (wf2_ : l2.length ≤ maxLen ∧ ∀ y0 ∈ l2, y0.length ≤ maxLen ∧ ∀ y1 ∈ y0, ((Lit.int .i64 y1.f0).wf = true) ∧ ((Lit.int .i64 y1.f1).wf = true)) :
  Calls Try.prog 12 #[.int .i64 a0, .int .i64 a1, .slice A2 l2.length c2] w fun e w' => e = .returned (.bool true) ∧ Below w.heap.size w w' := by
 obtain ⟨k, h⟩ := P a0 a1 l2 wf0_ wf1_ wf2_
 refine (laws_FnExactMadeStory.calls k a0 a1 A2 c2 l2 true w hr2 hc2 h).mono ?_
 rintro e w' ⟨rfl, hd⟩
 exact ⟨rfl, hd⟩

end Go.Proofs.Ytbhmippoeimliaa.P

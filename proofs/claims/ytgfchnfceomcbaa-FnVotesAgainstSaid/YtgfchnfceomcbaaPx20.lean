/- Written by our program myprint.py out of Lean's print of the translation: Go's function comes to just the answer of the Lean function told here. -/
import Derived.Test.YtgfchnfceomcbaaPx0
import Derived.Test.YtgfchnfceomcbaaPx3
import Derived.Test.YtgfchnfceomcbaaPx8
namespace Go.Proofs.Ytgfchnfceomcbaa.P
open Go.RowKit Go.Proofs.YtgfchnfceomcbaaW.PrintWords Go.Proofs.YtgfchnfceomcbaaW.PrintLast Go.Proofs.YtgfchnfceomcbaaW.PrintMore
attribute [local go_sem] max2_int min2_int max_two min_two max_three min_three max_four min_four   -- for this text's walks alone
set_option linter.unusedVariables false
set_option linter.unusedSimpArgs false

/-! ### spec_DrawVotesAgainst: function 49 -/
def spec_DrawVotesAgainst.f (k : Nat) (l0 : List Int) : Option ((List (List Int)) × Int) := (spec_l20Open.f l0).bind fun bt497 => ((spec_l20Syndrome.f k bt497.1 bt497.2 12).bind fun bt500 => ((spec_l20Rd_pick.f k bt497.1 bt500.2 (bt500.1.length : Int)).bind fun bt504 => ((spec_l20Rd_pick.f k bt497.1 bt504.2 40).bind fun bt506 => (some (bt500.1, wrap64 (bt504.1 + (wrap64 ((wrap64 (Int.tdiv bt506.1 39)) * 5))))))))
theorem spec_DrawVotesAgainst.mono : ∀ a0 k, LeO (spec_DrawVotesAgainst.f k a0) (spec_DrawVotesAgainst.f (k + 1) a0) := by
  intro a0 k
  unfold spec_DrawVotesAgainst.f
  repeat' first
      | (with_reducible exact spec_l20Rd_pick.mono _ _ _ _)
      | (with_reducible exact spec_l20Syndrome.mono _ _ _ _)
      | (with_reducible exact LeO.refl _)
      | (with_reducible exact LeO.none _)
      | (with_reducible refine LeO.ite ?_ ?_)
      | (with_reducible refine LeO.bind ?_ (fun _ => ?_))
      | exact spec_l20Rd_pick.mono _ _ _ _
      | exact spec_l20Syndrome.mono _ _ _ _
      | exact LeO.none _
      | refine LeO.ite ?_ ?_
      | refine LeO.bind ?_ (fun _ => ?_)
set_option maxHeartbeats 8000000 in
set_option maxRecDepth 100000 in
theorem spec_DrawVotesAgainst.calls (k : Nat) (A0 : Option Addr) (c0 : Nat) (l0 : List Int) (r1 : List (List Int)) (r2 : Int) (w : World) (hr0 : Kd.C (Kd.int .u8) w A0 l0.length l0) (hc0 : l0.length ≤ c0) (h : spec_DrawVotesAgainst.f k l0 = some (r1, r2)) :
    Calls Try.prog 49 #[.slice A0 l0.length c0] w fun e w' => ∃ v0_ : Value, e = .returned (.tuple #[v0_, .int .i64 r2]) ∧ Kd.S (Kd.slice 3 (Kd.int .i64)) 34 w' w.heap.size (fun _ => True) v0_ r1 ∧ Below w.heap.size w w' := by
  have HR0 := Aside0.mk hr0
  have HC0 := Aside0.mk hc0
  clear hr0 hc0
  have HB := Aside0.mk (Below.refl w.heap.size w)
  have H : ((spec_l20Open.f l0).bind fun bt497 => ((spec_l20Syndrome.f k bt497.1 bt497.2 12).bind fun bt500 => ((spec_l20Rd_pick.f k bt497.1 bt500.2 (bt500.1.length : Int)).bind fun bt504 => ((spec_l20Rd_pick.f k bt497.1 bt504.2 40).bind fun bt506 => (some (bt500.1, wrap64 (bt504.1 + (wrap64 ((wrap64 (Int.tdiv bt506.1 39)) * 5))))))))) = some (r1, r2) := h
  clear h
  replace H := Option.bind_eq_some_iff.mp H
  obtain ⟨⟨t497, t498⟩, A20, H⟩ := H
  replace H : ((spec_l20Syndrome.f k t497 t498 12).bind fun bt500 => ((spec_l20Rd_pick.f k t497 bt500.2 (bt500.1.length : Int)).bind fun bt504 => ((spec_l20Rd_pick.f k t497 bt504.2 40).bind fun bt506 => (some (bt500.1, wrap64 (bt504.1 + (wrap64 ((wrap64 (Int.tdiv bt506.1 39)) * 5)))))))) = some (r1, r2) := H
  have A2 := Aside0.mk A20
  clear A20
  replace H := Option.bind_eq_some_iff.mp H
  obtain ⟨⟨t500, t503⟩, A30, H⟩ := H
  replace H : ((spec_l20Rd_pick.f k t497 t503 (t500.length : Int)).bind fun bt504 => ((spec_l20Rd_pick.f k t497 bt504.2 40).bind fun bt506 => (some (t500, wrap64 (bt504.1 + (wrap64 ((wrap64 (Int.tdiv bt506.1 39)) * 5))))))) = some (r1, r2) := H
  have A3 := Aside0.mk A30
  clear A30
  replace H := Option.bind_eq_some_iff.mp H
  obtain ⟨⟨t504, t505⟩, A40, H⟩ := H
  replace H : ((spec_l20Rd_pick.f k t497 t505 40).bind fun bt506 => (some (t500, wrap64 (t504 + (wrap64 ((wrap64 (Int.tdiv bt506.1 39)) * 5)))))) = some (r1, r2) := H
  have A4 := Aside0.mk A40
  clear A40
  replace H := Option.bind_eq_some_iff.mp H
  obtain ⟨⟨t506, t507⟩, A50, H⟩ := H
  replace H : (some (t500, wrap64 (t504 + (wrap64 ((wrap64 (Int.tdiv t506 39)) * 5))))) = some (r1, r2) := H
  have A5 := Aside0.mk A50
  clear A50
  simp only [Option.some.injEq, Prod.mk.injEq] at H
  obtain ⟨rfl, rfl⟩ := H
  go_enter Try.func49, Try.ntmps49
  go_wp2_with (first | ((with_reducible refine gate_callee (f := 54) rfl ?_); refine goesL_ (some 7) rfl rfl Try.func54 (by kernel_rfl) rfl #[.slice A0 l0.length c0] rfl (by (try simp only [List.map_toArray, List.map_cons, List.map_nil]); first | done | rfl | (simp only [List.length_drop, List.length_take]; rfl)) ?_; (with_reducible refine (spec_l20Open.calls _ _ l0 t497 t498 w _ ?side1 ?side2 ?side3 A2.out).mono ?_); (case side1 => repeat (first | (with_reducible first | exact HB.out | apply below_alloc | apply pw_below_drewN | apply below_drew1) | exact HB.out)); (case side2 => exact HR0.out); (case side3 => exact HC0.out); rintro e w6 ⟨g499, rfl, hi, hb, hb2⟩; refine ⟨_, rfl, ?_⟩; have n0_ := Aside0.mk (hb); have n1_ := Aside0.mk (hi); clear HB; have HB := n0_; have HI499 := n1_; clear n0_ n1_; (try clear hb); (try clear hb2); (try clear hk); (try clear hi)) | ((with_reducible refine gate_callee (f := 59) rfl ?_); refine goesL_ (some 9) rfl rfl Try.func59 (by kernel_rfl) rfl #[.pointer (some ⟨g499, 0, none⟩), .int .i64 12] rfl (by (try simp only [List.map_toArray, List.map_cons, List.map_nil]); first | done | rfl | (simp only [List.length_drop, List.length_take]; rfl)) ?_; (with_reducible refine (spec_l20Syndrome.calls k g499 t497 t498 12 t500 t503 w _ ?side1 ?side2 A3.out).mono ?_); (case side1 => repeat (first | (with_reducible first | exact HI499.out | apply IsS57.alloc | apply IsS57.drewN | apply IsS57.drew | apply IsS57.set_1) | exact HI499.out)); (case side2 => repeat (first | (with_reducible first | exact HB.out | apply below_alloc | apply pw_below_drewN | apply below_drew1 | refine below_set ?_ (IsS57.ge HI499.out)) | exact HB.out)); rintro e w7 ⟨v501, rfl, ho0, hi, hb, hk⟩; refine ⟨_, rfl, ?_⟩; have n0_ := Aside0.mk (Kd.S_lower ho0 (below_size (by repeat (first | (with_reducible first | exact HB.out | apply below_alloc | apply pw_below_drewN | apply below_drew1 | refine below_set ?_ (IsS57.ge HI499.out)) | exact HB.out)))); have n1_ := Aside0.mk (hb); have n2_ := Aside0.mk (hi); clear HB; clear HI499; have HO502 := n0_; have HB := n1_; have HI499 := n2_; clear n0_ n1_ n2_; (try clear hb); (try clear hb2); (try clear hk); (try clear hi); (try clear ho0); obtain ⟨Ao8, co8, eo8⟩ := Kd.S_slice HO502.out; subst eo8) | ((with_reducible refine gate_callee (f := 55) rfl ?_); refine goesL_ (some 14) rfl rfl Try.func55 (by kernel_rfl) rfl #[.pointer (some ⟨g499, 0, none⟩), .int .i64 (t500.length : Int)] rfl (by (try simp only [List.map_toArray, List.map_cons, List.map_nil]); first | done | rfl | (simp only [List.length_drop, List.length_take]; rfl)) ?_; (with_reducible refine (spec_l20Rd_pick.calls k g499 t497 t503 (t500.length : Int) t504 t505 w _ ?side1 ?side2 A4.out).mono ?_); (case side1 => repeat (first | (with_reducible first | exact HI499.out | apply IsS57.alloc | apply IsS57.drewN | apply IsS57.drew | apply IsS57.set_1) | exact HI499.out)); (case side2 => repeat (first | (with_reducible first | exact HB.out | apply below_alloc | apply pw_below_drewN | apply below_drew1 | refine below_set ?_ (IsS57.ge HI499.out)) | exact HB.out)); rintro e w9 ⟨rfl, hi, hb, hk⟩; refine ⟨_, rfl, ?_⟩; have n0_ := Aside0.mk (Kd.S_mono (Kd.S_keep (IsS57.apartS (show IsS57 w _ g499 t497 t503 from by repeat (first | (with_reducible first | exact HI499.out | apply IsS57.alloc | apply IsS57.drewN | apply IsS57.drew | apply IsS57.set_1) | exact HI499.out)) (by (with_reducible repeat (first | apply Kd.S_alloc | apply Kd.S_drewN | apply Kd.S_drew)); exact HO502.out) (by decide)) hk (fun _ h => h.2)) (fun _ h => h.1)); have n1_ := Aside0.mk (hb); have n2_ := Aside0.mk (hi); clear HO502; clear HB; clear HI499; have HO502 := n0_; have HB := n1_; have HI499 := n2_; clear n0_ n1_ n2_; (try clear hb); (try clear hb2); (try clear hk); (try clear hi)) | ((with_reducible refine gate_callee (f := 55) rfl ?_); refine goesL_ (some 16) rfl rfl Try.func55 (by kernel_rfl) rfl #[.pointer (some ⟨g499, 0, none⟩), .int .i64 40] rfl (by (try simp only [List.map_toArray, List.map_cons, List.map_nil]); first | done | rfl | (simp only [List.length_drop, List.length_take]; rfl)) ?_; (with_reducible refine (spec_l20Rd_pick.calls k g499 t497 t505 40 t506 t507 w _ ?side1 ?side2 A5.out).mono ?_); (case side1 => repeat (first | (with_reducible first | exact HI499.out | apply IsS57.alloc | apply IsS57.drewN | apply IsS57.drew | apply IsS57.set_1) | exact HI499.out)); (case side2 => repeat (first | (with_reducible first | exact HB.out | apply below_alloc | apply pw_below_drewN | apply below_drew1 | refine below_set ?_ (IsS57.ge HI499.out)) | exact HB.out)); rintro e w10 ⟨rfl, hi, hb, hk⟩; refine ⟨_, rfl, ?_⟩; have n0_ := Aside0.mk (Kd.S_mono (Kd.S_keep (IsS57.apartS (show IsS57 w _ g499 t497 t505 from by repeat (first | (with_reducible first | exact HI499.out | apply IsS57.alloc | apply IsS57.drewN | apply IsS57.drew | apply IsS57.set_1) | exact HI499.out)) (by (with_reducible repeat (first | apply Kd.S_alloc | apply Kd.S_drewN | apply Kd.S_drew)); exact HO502.out) (by decide)) hk (fun _ h => h.2)) (fun _ h => h.1)); have n1_ := Aside0.mk (hb); have n2_ := Aside0.mk (hi); clear HO502; clear HB; clear HI499; have HO502 := n0_; have HB := n1_; have HI499 := n2_; clear n0_ n1_ n2_; (try clear hb); (try clear hb2); (try clear hk); (try clear hi)))
  go_ret2
  exact ⟨_, by first | rfl | (simp [errW_none, errW_some] <;> rfl) | (simp [*, errW_none, errW_some] <;> rfl), by (with_reducible repeat (first | apply Kd.S_alloc | apply Kd.S_drewN | apply Kd.S_drew)); exact HO502.out, by repeat (first | (with_reducible first | exact HB.out | apply below_alloc | apply pw_below_drewN | apply below_drew1 | refine below_set ?_ (IsS57.ge HI499.out)) | exact HB.out)⟩

end Go.Proofs.Ytgfchnfceomcbaa.P

/- Written by our program myprint.py out of Lean's print of the translation: Go's function comes to just the answer of the Lean function told here. -/
import Derived.Test.YtbhmippoeimliaaPx0
import Derived.Test.YtbhmippoeimliaaPx2
import Derived.Test.YtbhmippoeimliaaPx4
import Derived.Test.YtbhmippoeimliaaPx5
import Derived.Test.YtbhmippoeimliaaPx13
import Derived.Test.YtbhmippoeimliaaPx14
namespace Go.Proofs.Ytbhmippoeimliaa.P
open Go.RowKit Go.Proofs.YtbhmippoeimliaaW.PrintWords Go.Proofs.YtbhmippoeimliaaW.PrintLast Go.Proofs.YtbhmippoeimliaaW.PrintMore
attribute [local go_sem] max2_int min2_int max_two min_two max_three min_three max_four min_four   -- for this text's walks alone
set_option linter.unusedVariables false
set_option linter.unusedSimpArgs false

/-! ### spec_l20Claim: function 114 -/
def spec_l20Claim.f (k : Nat) (s0_0 : List Int) (s0_1 : Int) (a1 : Int) (a2 : Int) : Option (Int × (List (S81)) × Int) := (spec_l20Rd_pick.f k s0_0 s0_1 (mx a1 1)).bind fun bt209 => ((spec_l20Term.f k s0_0 bt209.2 a1 (wrap64 (a2 * 2))).bind fun bt211 => ((spec_l20Rd_odd.f k s0_0 bt211.2 a2).bind fun bt216 => (if bt216.1 = true then ((some (([(-1), 4] : List Int) : List Int)).bind fun y218 => ((spec_l20Rd_pick.f k s0_0 bt216.2 2).bind fun bt221 => (if 0 ≤ bt221.1 then (if bt221.1 < (y218.length : Int) then (some (rd y218 bt221.1, bt211.1, bt221.2)) else (none)) else (none)))) else (some (bt209.1, bt211.1, bt216.2)))))
theorem spec_l20Claim.mono : ∀ a0 a1 a2 a3 k, LeO (spec_l20Claim.f k a0 a1 a2 a3) (spec_l20Claim.f (k + 1) a0 a1 a2 a3) := by
 intro a0 a1 a2 a3 k
 unfold spec_l20Claim.f
 repeat' first
   | (with_reducible exact spec_l20Rd_odd.mono _ _ _ _)
   | (with_reducible exact spec_l20Rd_pick.mono _ _ _ _)
   | (with_reducible exact spec_l20Term.mono _ _ _ _ _)
   | (with_reducible exact LeO.refl _)
   | (with_reducible exact LeO.none _)
   | (with_reducible refine LeO.ite ?_ ?_)
   | (with_reducible refine LeO.bind ?_ (fun _ => ?_))
   | exact spec_l20Rd_odd.mono _ _ _ _
   | exact spec_l20Rd_pick.mono _ _ _ _
   | exact spec_l20Term.mono _ _ _ _ _
   | exact LeO.none _
   | refine LeO.ite ?_ ?_
   | refine LeO.bind ?_ (fun _ => ?_)
set_option maxHeartbeats 8000000 in
set_option maxRecDepth 100000 in
theorem spec_l20Claim.calls (k : Nat) (g : Nat) (s0_0 : List Int) (s0_1 : Int) (a1 : Int) (a2 : Int) (r1 : Int) (r2 : List (S81)) (r3 : Int) (w0 w : World) (hI : IsS124 w0 w g s0_0 s0_1) (hB : Below w0.heap.size w0 w) (h : spec_l20Claim.f k s0_0 s0_1 a1 a2 = some (r1, r2, r3)) :
  Calls Try.prog 114 #[.pointer (some ⟨g, 0, none⟩), .int .i64 a1, .int .i64 a2] w fun e w' => ∃ v1_ : Value, e = .returned (.agg #[.int .i64 r1, v1_]) ∧ Kd.R k81 81 w' w.heap.size (fun _ => True) v1_ r2 ∧ IsS124 w0 w' g s0_0 r3 ∧ Below w0.heap.size w0 w' ∧ KeepBut w w' g none := by
 have hu83 := Try.underlying83
 have HI0 := Aside0.mk hI
 have HK := Aside0.mk (KeepBut.refl w g none)
 have HL := Aside0.mk hB.size
 clear hI
 have HW0 := Aside0.mk hB.size
 have HB := Aside0.mk hB
 clear hB
 have H : ((spec_l20Rd_pick.f k s0_0 s0_1 (mx a1 1)).bind fun bt209 => ((spec_l20Term.f k s0_0 bt209.2 a1 (wrap64 (a2 * 2))).bind fun bt211 => ((spec_l20Rd_odd.f k s0_0 bt211.2 a2).bind fun bt216 => (if bt216.1 = true then ((some (([(-1), 4] : List Int) : List Int)).bind fun y218 => ((spec_l20Rd_pick.f k s0_0 bt216.2 2).bind fun bt221 => (if 0 ≤ bt221.1 then (if bt221.1 < (y218.length : Int) then (some (rd y218 bt221.1, bt211.1, bt221.2)) else (none)) else (none)))) else (some (bt209.1, bt211.1, bt216.2)))))) = some (r1, r2, r3) := h
 clear h
 obtain ⟨ji4, hji4⟩ : ∃ j_ : Int, (mx a1 1) = j_ := ⟨_, rfl⟩
 replace H : ((spec_l20Rd_pick.f k s0_0 s0_1 (ji4)).bind fun bt209 => ((spec_l20Term.f k s0_0 bt209.2 a1 (wrap64 (a2 * 2))).bind fun bt211 => ((spec_l20Rd_odd.f k s0_0 bt211.2 a2).bind fun bt216 => (if bt216.1 = true then ((some (([(-1), 4] : List Int) : List Int)).bind fun y218 => ((spec_l20Rd_pick.f k s0_0 bt216.2 2).bind fun bt221 => (if 0 ≤ bt221.1 then (if bt221.1 < (y218.length : Int) then (some (rd y218 bt221.1, bt211.1, bt221.2)) else (none)) else (none)))) else (some (bt209.1, bt211.1, bt216.2)))))) = some (r1, r2, r3) := by first | (rw [hji4] at H; exact H) | (simp only [hji4] at H ⊢; exact H)
 (try (have hji4l : 1 ≤ ji4 := by (rw [← hji4]; unfold mx; (repeat' split) <;> omega)))
 (try (have hji4m : 0 ≤ ji4 := by omega))
 have hji4_ : (if a1 < 1 then 1 else a1) = ji4 := hji4
 replace H := Option.bind_eq_some_iff.mp H
 obtain ⟨⟨t209, t210⟩, A50, H⟩ := H
 replace H : ((spec_l20Term.f k s0_0 t210 a1 (wrap64 (a2 * 2))).bind fun bt211 => ((spec_l20Rd_odd.f k s0_0 bt211.2 a2).bind fun bt216 => (if bt216.1 = true then ((some (([(-1), 4] : List Int) : List Int)).bind fun y218 => ((spec_l20Rd_pick.f k s0_0 bt216.2 2).bind fun bt221 => (if 0 ≤ bt221.1 then (if bt221.1 < (y218.length : Int) then (some (rd y218 bt221.1, bt211.1, bt221.2)) else (none)) else (none)))) else (some (t209, bt211.1, bt216.2))))) = some (r1, r2, r3) := H
 have A5 := Aside0.mk A50
 clear A50
 replace H := Option.bind_eq_some_iff.mp H
 obtain ⟨⟨t211, t214⟩, A60, H⟩ := H
 replace H : ((spec_l20Rd_odd.f k s0_0 t214 a2).bind fun bt216 => (if bt216.1 = true then ((some (([(-1), 4] : List Int) : List Int)).bind fun y218 => ((spec_l20Rd_pick.f k s0_0 bt216.2 2).bind fun bt221 => (if 0 ≤ bt221.1 then (if bt221.1 < (y218.length : Int) then (some (rd y218 bt221.1, t211, bt221.2)) else (none)) else (none)))) else (some (t209, t211, bt216.2)))) = some (r1, r2, r3) := H
 have A6 := Aside0.mk A60
 clear A60
 replace H := Option.bind_eq_some_iff.mp H
 obtain ⟨⟨t216, t217⟩, A70, H⟩ := H
 replace H : (if t216 = true then ((some (([(-1), 4] : List Int) : List Int)).bind fun y218 => ((spec_l20Rd_pick.f k s0_0 t217 2).bind fun bt221 => (if 0 ≤ bt221.1 then (if bt221.1 < (y218.length : Int) then (some (rd y218 bt221.1, t211, bt221.2)) else (none)) else (none)))) else (some (t209, t211, t217))) = some (r1, r2, r3) := H
 have A7 := Aside0.mk A70
 clear A70
 by_cases c8 : t216 = true
 ·subst c8
  have H1 : ((some (([(-1), 4] : List Int) : List Int)).bind fun y218 => ((spec_l20Rd_pick.f k s0_0 t217 2).bind fun bt221 => (if 0 ≤ bt221.1 then (if bt221.1 < (y218.length : Int) then (some (rd y218 bt221.1, t211, bt221.2)) else (none)) else (none)))) = some (r1, r2, r3) := by rw [if_pos rfl] at H; exact H
  clear H
  have H := H1
  clear H1
  obtain ⟨y218, hy218⟩ : ∃ y_ : List Int, y_ = (([(-1), 4] : List Int)) := ⟨_, rfl⟩
  replace H : ((spec_l20Rd_pick.f k s0_0 t217 2).bind fun bt221 => (if 0 ≤ bt221.1 then (if bt221.1 < (y218.length : Int) then (some (rd y218 bt221.1, t211, bt221.2)) else (none)) else (none))) = some (r1, r2, r3) := by first | (rw [hy218]; exact H) | exact H
  have Ny218 := Aside0.mk hy218
  clear hy218
  replace H := Option.bind_eq_some_iff.mp H
  obtain ⟨⟨t221, t222⟩, A90, H⟩ := H
  replace H : (if 0 ≤ t221 then (if t221 < (y218.length : Int) then (some (rd y218 t221, t211, t222)) else (none)) else (none)) = some (r1, r2, r3) := H
  have A9 := Aside0.mk A90
  clear A90
  by_cases c10 : 0 ≤ t221
  ·rw [if_pos c10] at H
   have c10b0 : decide (0 ≤ t221) = true := decide_eq_true c10
   clear c10
   by_cases c11 : t221 < (y218.length : Int)
   ·rw [if_pos c11] at H
    have c11b0 : decide (t221 < (y218.length : Int)) = true := decide_eq_true c11
    clear c11
    simp only [Option.some.injEq, Prod.mk.injEq] at H
    obtain ⟨rfl, rfl, rfl⟩ := H
    go_enter Try.func114, Try.ntmps114
    go_wp2_with (first | ((with_reducible refine gate_dst (N := 6) rfl ?_); refine box_event ?hg (N := 6) ?hd (cs := #[.int .i64 0, .slice none 0 0]) (t := 83) ?hr ?_; (case hd => rfl); (case hg => rfl); (case hr => first | (go_simp; done) | (go_simp; rfl)); intro gb208 hg w12 hbox hb; have n0_ := Aside0.mk (IsS124.below (IsS124.below HI0.out lt_) hb); have n1_ := Aside0.mk (KeepBut.trans (keep_at HK.out) (KeepBut.of_below hb g none) (.inl rfl)); have n2_ := Aside0.mk (below_step (below_at HB.out) hb); have n3_ := Aside0.mk (hbox); have n4_ := Aside0.mk ((by rw [hg]; exact (keep_size (w := w) (g := g) (row := none) (keep_at HK.out)) : w.heap.size ≤ gb208)); have n5_ := Aside0.mk ((Nat.le_trans HW0.out (by rw [hg]; exact (keep_size (w := w) (g := g) (row := none) (keep_at HK.out)) : w.heap.size ≤ gb208) : w0.heap.size ≤ gb208)); have n6_ := Aside0.mk ((by rw [hg]; exact Nat.ne_of_lt (IsS124.lt (show IsS124 w0 _ g s0_0 s0_1 from IsS124.below HI0.out lt_)) : g ≠ gb208)); have n7_ := Aside0.mk ((by rw [hg]; exact Nat.ne_of_gt (IsS124.lt (show IsS124 w0 _ g s0_0 s0_1 from IsS124.below HI0.out lt_)) : gb208 ≠ g)); clear HI0; clear HK; clear HB; have HI0 := n0_; have HK := n1_; have HB := n2_; have BK208 := n3_; have GW208 := n4_; have GE208 := n5_; have NB0_208 := n6_; have NB208_0 := n7_; clear n0_ n1_ n2_ n3_ n4_ n5_ n6_ n7_; clear hb hbox hg) | ((with_reducible refine gate_callee (f := 107) rfl ?_); refine goesL_ (some 11) rfl rfl Try.func107 (by kernel_rfl) rfl #[.pointer (some ⟨g, 0, none⟩), .int .i64 ji4] rfl (by (try simp only [List.map_toArray, List.map_cons, List.map_nil]); first | done | (simp only [hji4]; rfl) | rfl | (simp only [List.length_drop, List.length_take]; rfl)) ?_; (with_reducible refine (spec_l20Rd_pick.calls k g s0_0 s0_1 ji4 t209 t210 w0 _ ?side1 ?side2 A5.out).mono ?_); (case side1 => repeat (first | (with_reducible first | exact HI0.out | apply IsS124.alloc | apply IsS124.drewN | apply IsS124.drew | apply IsS124.set_1 | refine IsS124.far ?_ NB0_208.out _) | exact HI0.out)); (case side2 => repeat (first | (with_reducible first | exact HB.out | apply below_alloc | apply pw_below_drewN | apply below_drew1 | refine below_set ?_ (IsS124.ge HI0.out) | refine below_set ?_ GE208.out) | exact HB.out)); rintro e w13 ⟨rfl, hi, hb, hk⟩; refine ⟨_, rfl, ?_⟩; have n0_ := Aside0.mk (KeepBut.blk hk (g' := gb208) (o := .cells #[.int .i64 0, .slice none 0 0] 83 (0, 0)) (by (with_reducible repeat (first | refine blk_drewN ?_ _ | refine blk_drew ?_ | refine blk_alloc ?_ _)); exact BK208.out) NB208_0.out (by simp)); have n1_ := Aside0.mk (KeepBut.trans (by repeat (first | (with_reducible first | exact HK.out | apply KeepBut.set_ | apply keep_drewN | apply keep_drew | apply keep_alloc | refine keep_far ?_ GW208.out _) | exact HK.out)) hk (.inl rfl)); have n2_ := Aside0.mk (hb); have n3_ := Aside0.mk (hi); clear BK208; clear HK; clear HB; clear HI0; have BK208 := n0_; have HK := n1_; have HB := n2_; have HI0 := n3_; clear n0_ n1_ n2_ n3_; (try clear hb); (try clear hb2); (try clear hk); (try clear hi)) | ((with_reducible refine gate_callee (f := 108) rfl ?_); refine goesL_ (some 16) rfl rfl Try.func108 (by kernel_rfl) rfl #[.pointer (some ⟨g, 0, none⟩), .int .i64 a1, .int .i64 (wrap64 (a2 * 2))] rfl (by (try simp only [List.map_toArray, List.map_cons, List.map_nil]); first | done | rfl | (simp only [List.length_drop, List.length_take]; rfl)) ?_; (with_reducible refine (spec_l20Term.calls k g s0_0 t210 a1 (wrap64 (a2 * 2)) t211 t214 w0 _ ?side1 ?side2 A6.out).mono ?_); (case side1 => repeat (first | (with_reducible first | exact HI0.out | apply IsS124.alloc | apply IsS124.drewN | apply IsS124.drew | apply IsS124.set_1 | refine IsS124.far ?_ NB0_208.out _) | exact HI0.out)); (case side2 => repeat (first | (with_reducible first | exact HB.out | apply below_alloc | apply pw_below_drewN | apply below_drew1 | refine below_set ?_ (IsS124.ge HI0.out) | refine below_set ?_ GE208.out) | exact HB.out)); rintro e w14 ⟨v212, rfl, ho0, hi, hb, hk⟩; refine ⟨_, rfl, ?_⟩; have n0_ := Aside0.mk (KeepBut.blk hk (g' := gb208) (o := .cells #[.int .i64 0, .slice none 0 0] 83 (0, 0)) (by (with_reducible repeat (first | refine blk_drewN ?_ _ | refine blk_drew ?_ | refine blk_alloc ?_ _)); exact BK208.out) NB208_0.out (by simp)); have n1_ := Aside0.mk (Kd.R_lower ho0 (keep_size (w := w) (g := g) (row := none) (by repeat (first | (with_reducible first | exact HK.out | apply KeepBut.set_ | apply keep_drewN | apply keep_drew | apply keep_alloc | refine keep_far ?_ GW208.out _) | exact HK.out)))); have n2_ := Aside0.mk (KeepBut.trans (by repeat (first | (with_reducible first | exact HK.out | apply KeepBut.set_ | apply keep_drewN | apply keep_drew | apply keep_alloc | refine keep_far ?_ GW208.out _) | exact HK.out)) hk (.inl rfl)); have n3_ := Aside0.mk (hb); have n4_ := Aside0.mk (hi); clear BK208; clear HK; clear HB; clear HI0; have BK208 := n0_; have HO213 := n1_; have HK := n2_; have HB := n3_; have HI0 := n4_; clear n0_ n1_ n2_ n3_ n4_; (try clear hb); (try clear hb2); (try clear hk); (try clear hi); (try clear ho0); obtain ⟨Ao15, co15, eo15⟩ := Kd.R_slice HO213.out; subst eo15) | ((with_reducible refine gate_dst (N := 7) rfl ?_); refine box_event ?hg (N := 7) ?hd (cs := #[.int .i64 0, .slice none 0 0]) (t := 83) ?hr ?_; (case hd => rfl); (case hg => rfl); (case hr => first | (go_simp; done) | (go_simp; rfl)); intro gb215 hg w16 hbox hb; have n0_ := Aside0.mk (Kd.R_below (Kd.R_below HO213.out lt_) hb); have n1_ := Aside0.mk (IsS124.below (by repeat (first | (with_reducible first | exact HI0.out | apply IsS124.alloc | apply IsS124.drewN | apply IsS124.drew | apply IsS124.set_1 | refine IsS124.far ?_ NB0_208.out _) | exact HI0.out)) hb); have n2_ := Aside0.mk (blk_below (g := gb208) (o := .cells #[.int .i64 0, .slice none 0 0] 83 (0, 0)) (by (with_reducible repeat (first | refine blk_drewN ?_ _ | refine blk_drew ?_ | refine blk_alloc ?_ _)); exact BK208.out) hb); have n3_ := Aside0.mk (KeepBut.trans (by repeat (first | (with_reducible first | exact HK.out | apply KeepBut.set_ | apply keep_drewN | apply keep_drew | apply keep_alloc | refine keep_far ?_ GW208.out _) | exact HK.out)) (KeepBut.of_below hb g none) (.inl rfl)); have n4_ := Aside0.mk (below_step (by repeat (first | (with_reducible first | exact HB.out | apply below_alloc | apply pw_below_drewN | apply below_drew1 | refine below_set ?_ (IsS124.ge HI0.out) | refine below_set ?_ GE208.out) | exact HB.out)) hb); have n5_ := Aside0.mk (hbox); have n6_ := Aside0.mk ((by rw [hg]; exact (keep_size (w := w) (g := g) (row := none) (by repeat (first | (with_reducible first | exact HK.out | apply KeepBut.set_ | apply keep_drewN | apply keep_drew | apply keep_alloc | refine keep_far ?_ GW208.out _) | exact HK.out))) : w.heap.size ≤ gb215)); have n7_ := Aside0.mk ((Nat.le_trans HW0.out (by rw [hg]; exact (keep_size (w := w) (g := g) (row := none) (by repeat (first | (with_reducible first | exact HK.out | apply KeepBut.set_ | apply keep_drewN | apply keep_drew | apply keep_alloc | refine keep_far ?_ GW208.out _) | exact HK.out))) : w.heap.size ≤ gb215) : w0.heap.size ≤ gb215)); have n8_ := Aside0.mk ((by rw [hg]; exact Nat.ne_of_lt (blk_lt (g := gb208) (o := .cells #[.int .i64 0, .slice none 0 0] 83 (0, 0)) (by (with_reducible repeat (first | refine blk_drewN ?_ _ | refine blk_drew ?_ | refine blk_alloc ?_ _)); exact BK208.out)) : gb208 ≠ gb215)); have n9_ := Aside0.mk ((by rw [hg]; exact Nat.ne_of_gt (blk_lt (g := gb208) (o := .cells #[.int .i64 0, .slice none 0 0] 83 (0, 0)) (by (with_reducible repeat (first | refine blk_drewN ?_ _ | refine blk_drew ?_ | refine blk_alloc ?_ _)); exact BK208.out)) : gb215 ≠ gb208)); have n10_ := Aside0.mk ((by rw [hg]; exact Nat.ne_of_lt (IsS124.lt (show IsS124 w0 _ g s0_0 t214 from by repeat (first | (with_reducible first | exact HI0.out | apply IsS124.alloc | apply IsS124.drewN | apply IsS124.drew | apply IsS124.set_1 | refine IsS124.far ?_ NB0_208.out _) | exact HI0.out))) : g ≠ gb215)); have n11_ := Aside0.mk ((by rw [hg]; exact Nat.ne_of_gt (IsS124.lt (show IsS124 w0 _ g s0_0 t214 from by repeat (first | (with_reducible first | exact HI0.out | apply IsS124.alloc | apply IsS124.drewN | apply IsS124.drew | apply IsS124.set_1 | refine IsS124.far ?_ NB0_208.out _) | exact HI0.out))) : gb215 ≠ g)); clear HO213; clear HI0; clear BK208; clear HK; clear HB; have HO213 := n0_; have HI0 := n1_; have BK208 := n2_; have HK := n3_; have HB := n4_; have BK215 := n5_; have GW215 := n6_; have GE215 := n7_; have NB208_215 := n8_; have NB215_208 := n9_; have NB0_215 := n10_; have NB215_0 := n11_; clear n0_ n1_ n2_ n3_ n4_ n5_ n6_ n7_ n8_ n9_ n10_ n11_; clear hb hbox hg; have hnb17 := NB215_208.out; have hnc17 := NB208_215.out; have hnb18 := NB215_0.out; have hnc18 := NB0_215.out; have hcz19_0 : w16.cell? ⟨gb215, 0, none⟩ = some (.int .i64 0) := (blk_cell BK215.out 0).trans rfl; have hcz19_1 : w16.cell? ⟨gb215, 1, none⟩ = some (.slice none 0 0) := (blk_cell BK215.out 1).trans rfl; have hfz19_0 := blk_frozen BK215.out 0; have hfz19_1 := blk_frozen BK215.out 1) | ((with_reducible refine gate_callee (f := 115) rfl ?_); refine goesL_ (some 20) rfl rfl Try.func115 (by kernel_rfl) rfl #[.pointer (some ⟨g, 0, none⟩), .int .i64 a2] rfl (by (try simp only [List.map_toArray, List.map_cons, List.map_nil]); first | done | rfl | (simp only [List.length_drop, List.length_take]; rfl)) ?_; (with_reducible refine (spec_l20Rd_odd.calls k g s0_0 t214 a2 true t217 w0 _ ?side1 ?side2 A7.out).mono ?_); (case side1 => repeat (first | (with_reducible first | exact HI0.out | apply IsS124.alloc | apply IsS124.drewN | apply IsS124.drew | apply IsS124.set_1 | refine IsS124.far ?_ NB0_208.out _ | refine IsS124.far ?_ NB0_215.out _) | exact HI0.out)); (case side2 => repeat (first | (with_reducible first | exact HB.out | apply below_alloc | apply pw_below_drewN | apply below_drew1 | refine below_set ?_ (IsS124.ge HI0.out) | refine below_set ?_ GE208.out | refine below_set ?_ GE215.out) | exact HB.out)); rintro e w20 ⟨rfl, hi, hb, hk⟩; refine ⟨_, rfl, ?_⟩; have n0_ := Aside0.mk (KeepBut.blk hk (g' := gb208) (o := .cells #[.int .i64 0, .slice none 0 0] 83 (0, 0)) (by (with_reducible repeat (first | refine blk_drewN ?_ _ | refine blk_drew ?_ | refine blk_alloc ?_ _)); refine blk_far ?_ NB208_215.out _; (with_reducible repeat (first | refine blk_drewN ?_ _ | refine blk_drew ?_ | refine blk_alloc ?_ _)); refine blk_far ?_ NB208_215.out _; (with_reducible repeat (first | refine blk_drewN ?_ _ | refine blk_drew ?_ | refine blk_alloc ?_ _)); exact BK208.out) NB208_0.out (by simp)); have n1_ := Aside0.mk (Kd.R_mono (Kd.R_keep (IsS124.apart (show IsS124 w0 _ g s0_0 t214 from by repeat (first | (with_reducible first | exact HI0.out | apply IsS124.alloc | apply IsS124.drewN | apply IsS124.drew | apply IsS124.set_1 | refine IsS124.far ?_ NB0_208.out _ | refine IsS124.far ?_ NB0_215.out _) | exact HI0.out)) (by (with_reducible repeat (first | apply Kd.R_alloc | apply Kd.R_drewN | apply Kd.R_drew)); exact (Kd.R_mono (Kd.R_far (p := ⟨gb215, 1, none⟩) (Kd.R_far (p := ⟨gb215, 0, none⟩) (Kd.R_types HO213.out BK215.out (by decide)) (fun _ hk => hk.2) (.int .i64 t209)) (fun _ hk => hk.2) (.slice Ao15 t211.length co15)) (fun _ h_ => h_.1))) (by decide)) hk (fun _ h => h.2)) (fun _ h => h.1)); have n2_ := Aside0.mk (KeepBut.blk hk (g' := gb215) (o := .cells #[.int .i64 t209, .slice Ao15 t211.length co15] 83 (0, 0)) (by (with_reducible repeat (first | refine blk_drewN ?_ _ | refine blk_drew ?_ | refine blk_alloc ?_ _)); refine blk_put (cs := #[.int .i64 t209, .slice none 0 0]) ?_ 1 _ rfl; (with_reducible repeat (first | refine blk_drewN ?_ _ | refine blk_drew ?_ | refine blk_alloc ?_ _)); refine blk_put (cs := #[.int .i64 0, .slice none 0 0]) ?_ 0 _ rfl; (with_reducible repeat (first | refine blk_drewN ?_ _ | refine blk_drew ?_ | refine blk_alloc ?_ _)); exact BK215.out) NB215_0.out (by simp)); have n3_ := Aside0.mk (KeepBut.trans (by repeat (first | (with_reducible first | exact HK.out | apply KeepBut.set_ | apply keep_drewN | apply keep_drew | apply keep_alloc | refine keep_far ?_ GW208.out _ | refine keep_far ?_ GW215.out _) | exact HK.out)) hk (.inl rfl)); have n4_ := Aside0.mk (hb); have n5_ := Aside0.mk (hi); clear BK208; clear HO213; clear BK215; clear HK; clear HB; clear HI0; have BK208 := n0_; have HO213 := n1_; have BK215 := n2_; have HK := n3_; have HB := n4_; have HI0 := n5_; clear n0_ n1_ n2_ n3_ n4_ n5_; (try clear hb); (try clear hb2); (try clear hk); (try clear hi)) | ((with_reducible refine gate_dst (N := 21) rfl ?_); refine Kd.R_lit (Kd.int .i64) _ 3 ?hg (N := 21) ?hd (xs := ([(-1), 4] : List Int)) (inner := [.int .i64 (-1), .int .i64 4]) (ok := fun _ => True) (okp := fun _ => True) ?hr ?hp (fun _ hk => hk) trivial (Below.refl _ _) (Nat.le_refl _) (by simp) ?_; (case hd => rfl); (case hg => rfl); (case hr => first | (go_simp; done) | (go_simp; rfl)); (case hp => exact (Reps.one (show Kd.M (Kd.int .i64) _ _ _ (-1) [.int .i64 (-1)] from rfl) (Reps.one (show Kd.M (Kd.int .i64) _ _ _ 4 [.int .i64 4] from rfl) (Reps.none _ _)))); intro v219 w21 ho22 hb hg_ hnew_; clear hg_ hnew_; (first | rw [← Ny218.out] at ho22 | (simp only [Int.reduceToNat] at ho22; rw [← Ny218.out] at ho22)); have n0_ := Aside0.mk (Kd.R_below (Kd.R_below HO213.out lt_) hb); have n1_ := Aside0.mk (Kd.R_lower ho22 (keep_size (w := w) (g := g) (row := none) (by repeat (first | (with_reducible first | exact HK.out | apply KeepBut.set_ | apply keep_drewN | apply keep_drew | apply keep_alloc | refine keep_far ?_ GW208.out _ | refine keep_far ?_ GW215.out _) | exact HK.out)))); have n2_ := Aside0.mk (IsS124.below (by repeat (first | (with_reducible first | exact HI0.out | apply IsS124.alloc | apply IsS124.drewN | apply IsS124.drew | apply IsS124.set_1 | refine IsS124.far ?_ NB0_208.out _ | refine IsS124.far ?_ NB0_215.out _) | exact HI0.out)) hb); have n3_ := Aside0.mk (blk_below (g := gb208) (o := .cells #[.int .i64 0, .slice none 0 0] 83 (0, 0)) (by (with_reducible repeat (first | refine blk_drewN ?_ _ | refine blk_drew ?_ | refine blk_alloc ?_ _)); exact BK208.out) hb); have n4_ := Aside0.mk (blk_below (g := gb215) (o := .cells #[.int .i64 t209, .slice Ao15 t211.length co15] 83 (0, 0)) (by (with_reducible repeat (first | refine blk_drewN ?_ _ | refine blk_drew ?_ | refine blk_alloc ?_ _)); exact BK215.out) hb); have n5_ := Aside0.mk (KeepBut.trans (by repeat (first | (with_reducible first | exact HK.out | apply KeepBut.set_ | apply keep_drewN | apply keep_drew | apply keep_alloc | refine keep_far ?_ GW208.out _ | refine keep_far ?_ GW215.out _) | exact HK.out)) (KeepBut.of_below hb g none) (.inl rfl)); have n6_ := Aside0.mk (below_step (by repeat (first | (with_reducible first | exact HB.out | apply below_alloc | apply pw_below_drewN | apply below_drew1 | refine below_set ?_ (IsS124.ge HI0.out) | refine below_set ?_ GE208.out | refine below_set ?_ GE215.out) | exact HB.out)) hb); clear HO213; clear HI0; clear BK208; clear BK215; clear HK; clear HB; have HO213 := n0_; have HO220 := n1_; have HI0 := n2_; have BK208 := n3_; have BK215 := n4_; have HK := n5_; have HB := n6_; clear n0_ n1_ n2_ n3_ n4_ n5_ n6_; clear hb ho22) | ((with_reducible refine gate_callee (f := 107) rfl ?_); refine goesL_ (some 23) rfl rfl Try.func107 (by kernel_rfl) rfl #[.pointer (some ⟨g, 0, none⟩), .int .i64 2] rfl (by (try simp only [List.map_toArray, List.map_cons, List.map_nil]); first | done | rfl | (simp only [List.length_drop, List.length_take]; rfl)) ?_; (with_reducible refine (spec_l20Rd_pick.calls k g s0_0 t217 2 t221 t222 w0 _ ?side1 ?side2 A9.out).mono ?_); (case side1 => repeat (first | (with_reducible first | exact HI0.out | apply IsS124.alloc | apply IsS124.drewN | apply IsS124.drew | apply IsS124.set_1 | refine IsS124.far ?_ NB0_208.out _ | refine IsS124.far ?_ NB0_215.out _) | exact HI0.out)); (case side2 => repeat (first | (with_reducible first | exact HB.out | apply below_alloc | apply pw_below_drewN | apply below_drew1 | refine below_set ?_ (IsS124.ge HI0.out) | refine below_set ?_ GE208.out | refine below_set ?_ GE215.out) | exact HB.out)); rintro e w23 ⟨rfl, hi, hb, hk⟩; refine ⟨_, rfl, ?_⟩; have n0_ := Aside0.mk (KeepBut.blk hk (g' := gb208) (o := .cells #[.int .i64 0, .slice none 0 0] 83 (0, 0)) (by (with_reducible repeat (first | refine blk_drewN ?_ _ | refine blk_drew ?_ | refine blk_alloc ?_ _)); exact BK208.out) NB208_0.out (by simp)); have n1_ := Aside0.mk (Kd.R_mono (Kd.R_keep (IsS124.apart (show IsS124 w0 _ g s0_0 t217 from by repeat (first | (with_reducible first | exact HI0.out | apply IsS124.alloc | apply IsS124.drewN | apply IsS124.drew | apply IsS124.set_1 | refine IsS124.far ?_ NB0_208.out _ | refine IsS124.far ?_ NB0_215.out _) | exact HI0.out)) (Kd.R_below HO213.out lt_) (by decide)) hk (fun _ h => h.2)) (fun _ h => h.1)); have n2_ := Aside0.mk (KeepBut.blk hk (g' := gb215) (o := .cells #[.int .i64 t209, .slice Ao15 t211.length co15] 83 (0, 0)) (by (with_reducible repeat (first | refine blk_drewN ?_ _ | refine blk_drew ?_ | refine blk_alloc ?_ _)); exact BK215.out) NB215_0.out (by simp)); have n3_ := Aside0.mk (Kd.R_mono (Kd.R_keep (IsS124.apart (show IsS124 w0 _ g s0_0 t217 from by repeat (first | (with_reducible first | exact HI0.out | apply IsS124.alloc | apply IsS124.drewN | apply IsS124.drew | apply IsS124.set_1 | refine IsS124.far ?_ NB0_208.out _ | refine IsS124.far ?_ NB0_215.out _) | exact HI0.out)) (Kd.R_below HO220.out lt_) (by decide)) hk (fun _ h => h.2)) (fun _ h => h.1)); have n4_ := Aside0.mk (KeepBut.trans (by repeat (first | (with_reducible first | exact HK.out | apply KeepBut.set_ | apply keep_drewN | apply keep_drew | apply keep_alloc | refine keep_far ?_ GW208.out _ | refine keep_far ?_ GW215.out _) | exact HK.out)) hk (.inl rfl)); have n5_ := Aside0.mk (hb); have n6_ := Aside0.mk (hi); clear BK208; clear HO213; clear BK215; clear HO220; clear HK; clear HB; clear HI0; have BK208 := n0_; have HO213 := n1_; have BK215 := n2_; have HO220 := n3_; have HK := n4_; have HB := n5_; have HI0 := n6_; clear n0_ n1_ n2_ n3_ n4_ n5_ n6_; (try clear hb); (try clear hb2); (try clear hk); (try clear hi); obtain ⟨Ao24, co24, eo24⟩ := Kd.R_slice HO220.out; subst eo24; have p223 : 0 ≤ (t221 : Int) := of_decide_eq_true (by first | (with_reducible assumption) | assumption); have q223 : t221 < (y218.length : Int) := of_decide_eq_true (by first | (with_reducible assumption) | assumption); obtain ⟨ad223, e223, hx223_0⟩ := Kd.at_int (Kd.R_reads' HO220.out).2.2 t221 p223 q223; cases e223; replace p223 := eq_true p223; replace q223 := eq_true q223; have hcz25_0 : w23.cell? ⟨gb215, 0, none⟩ = some (.int .i64 t209) := (blk_cell BK215.out 0).trans rfl; have hcz25_1 : w23.cell? ⟨gb215, 1, none⟩ = some (.slice Ao15 t211.length co15) := (blk_cell BK215.out 1).trans rfl; have hfz25_0 := blk_frozen BK215.out 0; have hfz25_1 := blk_frozen BK215.out 1; have hnb26 := NB208_0.out; have hnc26 := NB0_208.out; have hcz27_0 : w23.cell? ⟨gb208, 0, none⟩ = some (.int .i64 0) := (blk_cell BK208.out 0).trans rfl; have hcz27_1 : w23.cell? ⟨gb208, 1, none⟩ = some (.slice none 0 0) := (blk_cell BK208.out 1).trans rfl; have hfz27_0 := blk_frozen BK208.out 0; have hfz27_1 := blk_frozen BK208.out 1))
    refine bodyPost_ret (results_cell_row rfl _ _ gb208 83 #[.int .i64 (rd y218 t221), .slice Ao15 t211.length co15] (0, 0) _ rfl (by (with_reducible repeat (first | refine blk_drewN ?_ _ | refine blk_drew ?_ | refine blk_alloc ?_ _)); refine blk_put (cs := #[.int .i64 (rd y218 t221), .slice none 0 0]) ?_ 1 _ rfl; (with_reducible repeat (first | refine blk_drewN ?_ _ | refine blk_drew ?_ | refine blk_alloc ?_ _)); refine blk_put (cs := #[.int .i64 0, .slice none 0 0]) ?_ 0 _ rfl; (with_reducible repeat (first | refine blk_drewN ?_ _ | refine blk_drew ?_ | refine blk_alloc ?_ _)); refine blk_far ?_ NB208_215.out _; (with_reducible repeat (first | refine blk_drewN ?_ _ | refine blk_drew ?_ | refine blk_alloc ?_ _)); exact BK208.out) Try.underlying83 rfl (by kernel_rfl)) rfl ?_
    exact ⟨_, by first | rfl | (simp [errW_none, errW_some] <;> rfl) | (simp only [← hji4]; first | rfl | (simp [errW_none, errW_some] <;> rfl)) | (simp [*, errW_none, errW_some] <;> rfl), by (with_reducible repeat (first | apply Kd.R_alloc | apply Kd.R_drewN | apply Kd.R_drew)); exact Kd.R_mono (Kd.R_far (p := ⟨gb208, 1, none⟩) (Kd.R_far (p := ⟨gb208, 0, none⟩) (Kd.R_far (p := ⟨gb215, 0, none⟩) (Kd.R_types (Kd.R_types HO213.out BK215.out (by decide)) BK208.out (by decide)) (fun _ hk => hk.1.2) (.int .i64 (rd y218 t221))) (fun _ hk => hk.2) (.int .i64 (rd y218 t221))) (fun _ hk => hk.2) (.slice Ao15 t211.length co15)) (fun _ hk => trivial), by repeat (first | (with_reducible first | exact HI0.out | apply IsS124.alloc | apply IsS124.drewN | apply IsS124.drew | apply IsS124.set_1 | refine IsS124.far ?_ NB0_208.out _ | refine IsS124.far ?_ NB0_215.out _) | exact HI0.out), by repeat (first | (with_reducible first | exact HB.out | apply below_alloc | apply pw_below_drewN | apply below_drew1 | refine below_set ?_ (IsS124.ge HI0.out) | refine below_set ?_ GE208.out | refine below_set ?_ GE215.out) | exact HB.out), by repeat (first | (with_reducible first | exact HK.out | apply KeepBut.set_ | apply keep_drewN | apply keep_drew | apply keep_alloc | refine keep_far ?_ GW208.out _ | refine keep_far ?_ GW215.out _) | exact HK.out)⟩
   ·rw [if_neg c11] at H
    exact absurd H (by simp)
  ·rw [if_neg c10] at H
   exact absurd H (by simp)
 ·replace c8 := Bool.eq_false_iff.mpr c8
  subst c8
  have H1 : (some (t209, t211, t217)) = some (r1, r2, r3) := by rw [if_neg (show ¬ (false = true) by decide)] at H; exact H
  clear H
  have H := H1
  clear H1
  simp only [Option.some.injEq, Prod.mk.injEq] at H
  obtain ⟨rfl, rfl, rfl⟩ := H
  go_enter Try.func114, Try.ntmps114
  go_wp2_with (first | ((with_reducible refine gate_dst (N := 6) rfl ?_); refine box_event ?hg (N := 6) ?hd (cs := #[.int .i64 0, .slice none 0 0]) (t := 83) ?hr ?_; (case hd => rfl); (case hg => rfl); (case hr => first | (go_simp; done) | (go_simp; rfl)); intro gb208 hg w28 hbox hb; have n0_ := Aside0.mk (IsS124.below (IsS124.below HI0.out lt_) hb); have n1_ := Aside0.mk (KeepBut.trans (keep_at HK.out) (KeepBut.of_below hb g none) (.inl rfl)); have n2_ := Aside0.mk (below_step (below_at HB.out) hb); have n3_ := Aside0.mk (hbox); have n4_ := Aside0.mk ((by rw [hg]; exact (keep_size (w := w) (g := g) (row := none) (keep_at HK.out)) : w.heap.size ≤ gb208)); have n5_ := Aside0.mk ((Nat.le_trans HW0.out (by rw [hg]; exact (keep_size (w := w) (g := g) (row := none) (keep_at HK.out)) : w.heap.size ≤ gb208) : w0.heap.size ≤ gb208)); have n6_ := Aside0.mk ((by rw [hg]; exact Nat.ne_of_lt (IsS124.lt (show IsS124 w0 _ g s0_0 s0_1 from IsS124.below HI0.out lt_)) : g ≠ gb208)); have n7_ := Aside0.mk ((by rw [hg]; exact Nat.ne_of_gt (IsS124.lt (show IsS124 w0 _ g s0_0 s0_1 from IsS124.below HI0.out lt_)) : gb208 ≠ g)); clear HI0; clear HK; clear HB; have HI0 := n0_; have HK := n1_; have HB := n2_; have BK208 := n3_; have GW208 := n4_; have GE208 := n5_; have NB0_208 := n6_; have NB208_0 := n7_; clear n0_ n1_ n2_ n3_ n4_ n5_ n6_ n7_; clear hb hbox hg) | ((with_reducible refine gate_callee (f := 107) rfl ?_); refine goesL_ (some 11) rfl rfl Try.func107 (by kernel_rfl) rfl #[.pointer (some ⟨g, 0, none⟩), .int .i64 ji4] rfl (by (try simp only [List.map_toArray, List.map_cons, List.map_nil]); first | done | (simp only [hji4]; rfl) | rfl | (simp only [List.length_drop, List.length_take]; rfl)) ?_; (with_reducible refine (spec_l20Rd_pick.calls k g s0_0 s0_1 ji4 t209 t210 w0 _ ?side1 ?side2 A5.out).mono ?_); (case side1 => repeat (first | (with_reducible first | exact HI0.out | apply IsS124.alloc | apply IsS124.drewN | apply IsS124.drew | apply IsS124.set_1 | refine IsS124.far ?_ NB0_208.out _) | exact HI0.out)); (case side2 => repeat (first | (with_reducible first | exact HB.out | apply below_alloc | apply pw_below_drewN | apply below_drew1 | refine below_set ?_ (IsS124.ge HI0.out) | refine below_set ?_ GE208.out) | exact HB.out)); rintro e w29 ⟨rfl, hi, hb, hk⟩; refine ⟨_, rfl, ?_⟩; have n0_ := Aside0.mk (KeepBut.blk hk (g' := gb208) (o := .cells #[.int .i64 0, .slice none 0 0] 83 (0, 0)) (by (with_reducible repeat (first | refine blk_drewN ?_ _ | refine blk_drew ?_ | refine blk_alloc ?_ _)); exact BK208.out) NB208_0.out (by simp)); have n1_ := Aside0.mk (KeepBut.trans (by repeat (first | (with_reducible first | exact HK.out | apply KeepBut.set_ | apply keep_drewN | apply keep_drew | apply keep_alloc | refine keep_far ?_ GW208.out _) | exact HK.out)) hk (.inl rfl)); have n2_ := Aside0.mk (hb); have n3_ := Aside0.mk (hi); clear BK208; clear HK; clear HB; clear HI0; have BK208 := n0_; have HK := n1_; have HB := n2_; have HI0 := n3_; clear n0_ n1_ n2_ n3_; (try clear hb); (try clear hb2); (try clear hk); (try clear hi)) | ((with_reducible refine gate_callee (f := 108) rfl ?_); refine goesL_ (some 16) rfl rfl Try.func108 (by kernel_rfl) rfl #[.pointer (some ⟨g, 0, none⟩), .int .i64 a1, .int .i64 (wrap64 (a2 * 2))] rfl (by (try simp only [List.map_toArray, List.map_cons, List.map_nil]); first | done | rfl | (simp only [List.length_drop, List.length_take]; rfl)) ?_; (with_reducible refine (spec_l20Term.calls k g s0_0 t210 a1 (wrap64 (a2 * 2)) t211 t214 w0 _ ?side1 ?side2 A6.out).mono ?_); (case side1 => repeat (first | (with_reducible first | exact HI0.out | apply IsS124.alloc | apply IsS124.drewN | apply IsS124.drew | apply IsS124.set_1 | refine IsS124.far ?_ NB0_208.out _) | exact HI0.out)); (case side2 => repeat (first | (with_reducible first | exact HB.out | apply below_alloc | apply pw_below_drewN | apply below_drew1 | refine below_set ?_ (IsS124.ge HI0.out) | refine below_set ?_ GE208.out) | exact HB.out)); rintro e w30 ⟨v212, rfl, ho0, hi, hb, hk⟩; refine ⟨_, rfl, ?_⟩; have n0_ := Aside0.mk (KeepBut.blk hk (g' := gb208) (o := .cells #[.int .i64 0, .slice none 0 0] 83 (0, 0)) (by (with_reducible repeat (first | refine blk_drewN ?_ _ | refine blk_drew ?_ | refine blk_alloc ?_ _)); exact BK208.out) NB208_0.out (by simp)); have n1_ := Aside0.mk (Kd.R_lower ho0 (keep_size (w := w) (g := g) (row := none) (by repeat (first | (with_reducible first | exact HK.out | apply KeepBut.set_ | apply keep_drewN | apply keep_drew | apply keep_alloc | refine keep_far ?_ GW208.out _) | exact HK.out)))); have n2_ := Aside0.mk (KeepBut.trans (by repeat (first | (with_reducible first | exact HK.out | apply KeepBut.set_ | apply keep_drewN | apply keep_drew | apply keep_alloc | refine keep_far ?_ GW208.out _) | exact HK.out)) hk (.inl rfl)); have n3_ := Aside0.mk (hb); have n4_ := Aside0.mk (hi); clear BK208; clear HK; clear HB; clear HI0; have BK208 := n0_; have HO213 := n1_; have HK := n2_; have HB := n3_; have HI0 := n4_; clear n0_ n1_ n2_ n3_ n4_; (try clear hb); (try clear hb2); (try clear hk); (try clear hi); (try clear ho0); obtain ⟨Ao31, co31, eo31⟩ := Kd.R_slice HO213.out; subst eo31) | ((with_reducible refine gate_dst (N := 7) rfl ?_); refine box_event ?hg (N := 7) ?hd (cs := #[.int .i64 0, .slice none 0 0]) (t := 83) ?hr ?_; (case hd => rfl); (case hg => rfl); (case hr => first | (go_simp; done) | (go_simp; rfl)); intro gb215 hg w32 hbox hb; have n0_ := Aside0.mk (Kd.R_below (Kd.R_below HO213.out lt_) hb); have n1_ := Aside0.mk (IsS124.below (by repeat (first | (with_reducible first | exact HI0.out | apply IsS124.alloc | apply IsS124.drewN | apply IsS124.drew | apply IsS124.set_1 | refine IsS124.far ?_ NB0_208.out _) | exact HI0.out)) hb); have n2_ := Aside0.mk (blk_below (g := gb208) (o := .cells #[.int .i64 0, .slice none 0 0] 83 (0, 0)) (by (with_reducible repeat (first | refine blk_drewN ?_ _ | refine blk_drew ?_ | refine blk_alloc ?_ _)); exact BK208.out) hb); have n3_ := Aside0.mk (KeepBut.trans (by repeat (first | (with_reducible first | exact HK.out | apply KeepBut.set_ | apply keep_drewN | apply keep_drew | apply keep_alloc | refine keep_far ?_ GW208.out _) | exact HK.out)) (KeepBut.of_below hb g none) (.inl rfl)); have n4_ := Aside0.mk (below_step (by repeat (first | (with_reducible first | exact HB.out | apply below_alloc | apply pw_below_drewN | apply below_drew1 | refine below_set ?_ (IsS124.ge HI0.out) | refine below_set ?_ GE208.out) | exact HB.out)) hb); have n5_ := Aside0.mk (hbox); have n6_ := Aside0.mk ((by rw [hg]; exact (keep_size (w := w) (g := g) (row := none) (by repeat (first | (with_reducible first | exact HK.out | apply KeepBut.set_ | apply keep_drewN | apply keep_drew | apply keep_alloc | refine keep_far ?_ GW208.out _) | exact HK.out))) : w.heap.size ≤ gb215)); have n7_ := Aside0.mk ((Nat.le_trans HW0.out (by rw [hg]; exact (keep_size (w := w) (g := g) (row := none) (by repeat (first | (with_reducible first | exact HK.out | apply KeepBut.set_ | apply keep_drewN | apply keep_drew | apply keep_alloc | refine keep_far ?_ GW208.out _) | exact HK.out))) : w.heap.size ≤ gb215) : w0.heap.size ≤ gb215)); have n8_ := Aside0.mk ((by rw [hg]; exact Nat.ne_of_lt (blk_lt (g := gb208) (o := .cells #[.int .i64 0, .slice none 0 0] 83 (0, 0)) (by (with_reducible repeat (first | refine blk_drewN ?_ _ | refine blk_drew ?_ | refine blk_alloc ?_ _)); exact BK208.out)) : gb208 ≠ gb215)); have n9_ := Aside0.mk ((by rw [hg]; exact Nat.ne_of_gt (blk_lt (g := gb208) (o := .cells #[.int .i64 0, .slice none 0 0] 83 (0, 0)) (by (with_reducible repeat (first | refine blk_drewN ?_ _ | refine blk_drew ?_ | refine blk_alloc ?_ _)); exact BK208.out)) : gb215 ≠ gb208)); have n10_ := Aside0.mk ((by rw [hg]; exact Nat.ne_of_lt (IsS124.lt (show IsS124 w0 _ g s0_0 t214 from by repeat (first | (with_reducible first | exact HI0.out | apply IsS124.alloc | apply IsS124.drewN | apply IsS124.drew | apply IsS124.set_1 | refine IsS124.far ?_ NB0_208.out _) | exact HI0.out))) : g ≠ gb215)); have n11_ := Aside0.mk ((by rw [hg]; exact Nat.ne_of_gt (IsS124.lt (show IsS124 w0 _ g s0_0 t214 from by repeat (first | (with_reducible first | exact HI0.out | apply IsS124.alloc | apply IsS124.drewN | apply IsS124.drew | apply IsS124.set_1 | refine IsS124.far ?_ NB0_208.out _) | exact HI0.out))) : gb215 ≠ g)); clear HO213; clear HI0; clear BK208; clear HK; clear HB; have HO213 := n0_; have HI0 := n1_; have BK208 := n2_; have HK := n3_; have HB := n4_; have BK215 := n5_; have GW215 := n6_; have GE215 := n7_; have NB208_215 := n8_; have NB215_208 := n9_; have NB0_215 := n10_; have NB215_0 := n11_; clear n0_ n1_ n2_ n3_ n4_ n5_ n6_ n7_ n8_ n9_ n10_ n11_; clear hb hbox hg; have hnb33 := NB215_208.out; have hnc33 := NB208_215.out; have hnb34 := NB215_0.out; have hnc34 := NB0_215.out; have hcz35_0 : w32.cell? ⟨gb215, 0, none⟩ = some (.int .i64 0) := (blk_cell BK215.out 0).trans rfl; have hcz35_1 : w32.cell? ⟨gb215, 1, none⟩ = some (.slice none 0 0) := (blk_cell BK215.out 1).trans rfl; have hfz35_0 := blk_frozen BK215.out 0; have hfz35_1 := blk_frozen BK215.out 1) | ((with_reducible refine gate_callee (f := 115) rfl ?_); refine goesL_ (some 20) rfl rfl Try.func115 (by kernel_rfl) rfl #[.pointer (some ⟨g, 0, none⟩), .int .i64 a2] rfl (by (try simp only [List.map_toArray, List.map_cons, List.map_nil]); first | done | rfl | (simp only [List.length_drop, List.length_take]; rfl)) ?_; (with_reducible refine (spec_l20Rd_odd.calls k g s0_0 t214 a2 false t217 w0 _ ?side1 ?side2 A7.out).mono ?_); (case side1 => repeat (first | (with_reducible first | exact HI0.out | apply IsS124.alloc | apply IsS124.drewN | apply IsS124.drew | apply IsS124.set_1 | refine IsS124.far ?_ NB0_208.out _ | refine IsS124.far ?_ NB0_215.out _) | exact HI0.out)); (case side2 => repeat (first | (with_reducible first | exact HB.out | apply below_alloc | apply pw_below_drewN | apply below_drew1 | refine below_set ?_ (IsS124.ge HI0.out) | refine below_set ?_ GE208.out | refine below_set ?_ GE215.out) | exact HB.out)); rintro e w36 ⟨rfl, hi, hb, hk⟩; refine ⟨_, rfl, ?_⟩; have n0_ := Aside0.mk (KeepBut.blk hk (g' := gb208) (o := .cells #[.int .i64 0, .slice none 0 0] 83 (0, 0)) (by (with_reducible repeat (first | refine blk_drewN ?_ _ | refine blk_drew ?_ | refine blk_alloc ?_ _)); refine blk_far ?_ NB208_215.out _; (with_reducible repeat (first | refine blk_drewN ?_ _ | refine blk_drew ?_ | refine blk_alloc ?_ _)); refine blk_far ?_ NB208_215.out _; (with_reducible repeat (first | refine blk_drewN ?_ _ | refine blk_drew ?_ | refine blk_alloc ?_ _)); exact BK208.out) NB208_0.out (by simp)); have n1_ := Aside0.mk (Kd.R_mono (Kd.R_keep (IsS124.apart (show IsS124 w0 _ g s0_0 t214 from by repeat (first | (with_reducible first | exact HI0.out | apply IsS124.alloc | apply IsS124.drewN | apply IsS124.drew | apply IsS124.set_1 | refine IsS124.far ?_ NB0_208.out _ | refine IsS124.far ?_ NB0_215.out _) | exact HI0.out)) (by (with_reducible repeat (first | apply Kd.R_alloc | apply Kd.R_drewN | apply Kd.R_drew)); exact (Kd.R_mono (Kd.R_far (p := ⟨gb215, 1, none⟩) (Kd.R_far (p := ⟨gb215, 0, none⟩) (Kd.R_types HO213.out BK215.out (by decide)) (fun _ hk => hk.2) (.int .i64 t209)) (fun _ hk => hk.2) (.slice Ao31 t211.length co31)) (fun _ h_ => h_.1))) (by decide)) hk (fun _ h => h.2)) (fun _ h => h.1)); have n2_ := Aside0.mk (KeepBut.blk hk (g' := gb215) (o := .cells #[.int .i64 t209, .slice Ao31 t211.length co31] 83 (0, 0)) (by (with_reducible repeat (first | refine blk_drewN ?_ _ | refine blk_drew ?_ | refine blk_alloc ?_ _)); refine blk_put (cs := #[.int .i64 t209, .slice none 0 0]) ?_ 1 _ rfl; (with_reducible repeat (first | refine blk_drewN ?_ _ | refine blk_drew ?_ | refine blk_alloc ?_ _)); refine blk_put (cs := #[.int .i64 0, .slice none 0 0]) ?_ 0 _ rfl; (with_reducible repeat (first | refine blk_drewN ?_ _ | refine blk_drew ?_ | refine blk_alloc ?_ _)); exact BK215.out) NB215_0.out (by simp)); have n3_ := Aside0.mk (KeepBut.trans (by repeat (first | (with_reducible first | exact HK.out | apply KeepBut.set_ | apply keep_drewN | apply keep_drew | apply keep_alloc | refine keep_far ?_ GW208.out _ | refine keep_far ?_ GW215.out _) | exact HK.out)) hk (.inl rfl)); have n4_ := Aside0.mk (hb); have n5_ := Aside0.mk (hi); clear BK208; clear HO213; clear BK215; clear HK; clear HB; clear HI0; have BK208 := n0_; have HO213 := n1_; have BK215 := n2_; have HK := n3_; have HB := n4_; have HI0 := n5_; clear n0_ n1_ n2_ n3_ n4_ n5_; (try clear hb); (try clear hb2); (try clear hk); (try clear hi); have hcz37_0 : w36.cell? ⟨gb215, 0, none⟩ = some (.int .i64 t209) := (blk_cell BK215.out 0).trans rfl; have hcz37_1 : w36.cell? ⟨gb215, 1, none⟩ = some (.slice Ao31 t211.length co31) := (blk_cell BK215.out 1).trans rfl; have hfz37_0 := blk_frozen BK215.out 0; have hfz37_1 := blk_frozen BK215.out 1; have hnb38 := NB208_0.out; have hnc38 := NB0_208.out; have hcz39_0 : w36.cell? ⟨gb208, 0, none⟩ = some (.int .i64 0) := (blk_cell BK208.out 0).trans rfl; have hcz39_1 : w36.cell? ⟨gb208, 1, none⟩ = some (.slice none 0 0) := (blk_cell BK208.out 1).trans rfl; have hfz39_0 := blk_frozen BK208.out 0; have hfz39_1 := blk_frozen BK208.out 1))
  refine bodyPost_ret (results_cell_row rfl _ _ gb208 83 #[.int .i64 t209, .slice Ao31 t211.length co31] (0, 0) _ rfl (by (with_reducible repeat (first | refine blk_drewN ?_ _ | refine blk_drew ?_ | refine blk_alloc ?_ _)); refine blk_put (cs := #[.int .i64 t209, .slice none 0 0]) ?_ 1 _ rfl; (with_reducible repeat (first | refine blk_drewN ?_ _ | refine blk_drew ?_ | refine blk_alloc ?_ _)); refine blk_put (cs := #[.int .i64 0, .slice none 0 0]) ?_ 0 _ rfl; (with_reducible repeat (first | refine blk_drewN ?_ _ | refine blk_drew ?_ | refine blk_alloc ?_ _)); exact BK208.out) Try.underlying83 rfl (by kernel_rfl)) rfl ?_
  exact ⟨_, by first | rfl | (simp [errW_none, errW_some] <;> rfl) | (simp only [← hji4]; first | rfl | (simp [errW_none, errW_some] <;> rfl)) | (simp [*, errW_none, errW_some] <;> rfl), by (with_reducible repeat (first | apply Kd.R_alloc | apply Kd.R_drewN | apply Kd.R_drew)); exact Kd.R_mono (Kd.R_far (p := ⟨gb208, 1, none⟩) (Kd.R_far (p := ⟨gb208, 0, none⟩) (Kd.R_types HO213.out BK208.out (by decide)) (fun _ hk => hk.2) (.int .i64 t209)) (fun _ hk => hk.2) (.slice Ao31 t211.length co31)) (fun _ hk => trivial), by repeat (first | (with_reducible first | exact HI0.out | apply IsS124.alloc | apply IsS124.drewN | apply IsS124.drew | apply IsS124.set_1 | refine IsS124.far ?_ NB0_208.out _ | refine IsS124.far ?_ NB0_215.out _) | exact HI0.out), by repeat (first | (with_reducible first | exact HB.out | apply below_alloc | apply pw_below_drewN | apply below_drew1 | refine below_set ?_ (IsS124.ge HI0.out) | refine below_set ?_ GE208.out | refine below_set ?_ GE215.out) | exact HB.out), by repeat (first | (with_reducible first | exact HK.out | apply KeepBut.set_ | apply keep_drewN | apply keep_drew | apply keep_alloc | refine keep_far ?_ GW208.out _ | refine keep_far ?_ GW215.out _) | exact HK.out)⟩

/-! ### spec_l20Story: function 92 -/
mutual
def spec_l20Story.l0 : Nat → Int → Int → List (S83) → Int → List Int → Int → Option (Int × (List (S83)) × Int)
 | 0, _, _, _, _, _, _ => none
 | k + 1, x1, x6, x7, x8, x1000, x1001 => if x8 > 0 then ((spec_l20Claim.f k x1000 x1001 x6 (wrap64 (x1 * 3))).bind fun bt231 => (if x7.length < 4398046511104 then (spec_l20Story.l0 k x1 x6 (x7 ++ [(⟨bt231.1, bt231.2.1⟩ : S83)]) (wrap64 (x8 - 1)) x1000 bt231.2.2) else (none))) else ((spec_l20Rd_odd.f k x1000 x1001 x1).bind fun bt239 => (if bt239.1 = true then (spec_l20Story.l1 k x6 x7 x1000 bt239.2) else (some (x6, x7, bt239.2))))
def spec_l20Story.l1 : Nat → Int → List (S83) → List Int → Int → Option (Int × (List (S83)) × Int)
 | 0, _, _, _, _ => none
 | k + 1, x6, x7, x1000, x1001 => if (x7.length : Int) < 7 then (if x7.length < 4398046511104 then (spec_l20Story.l1 k x6 (x7 ++ [(⟨0, (([(⟨0, 0⟩ : S81)] : List (S81)))⟩ : S83)]) x1000 x1001) else (none)) else (some (x6, x7, x1001))
end
def spec_l20Story.f (k : Nat) (s0_0 : List Int) (s0_1 : Int) (a1 : Int) : Option (Int × (List (S83)) × Int) := (spec_l20Rd_pick.f k s0_0 s0_1 4).bind fun bt224 => ((spec_l20Rd_pick.f k s0_0 bt224.2 5).bind fun bt229 => (spec_l20Story.l0 k a1 (wrap64 (1 + bt224.1)) (([] : List (S83))) bt229.1 s0_0 bt229.2))
theorem spec_l20Story.mono_l : ∀ k, (∀ y0 y1 y2 y3 y4 y5, LeO (spec_l20Story.l0 k y0 y1 y2 y3 y4 y5) (spec_l20Story.l0 (k + 1) y0 y1 y2 y3 y4 y5)) ∧ (∀ y0 y1 y2 y3, LeO (spec_l20Story.l1 k y0 y1 y2 y3) (spec_l20Story.l1 (k + 1) y0 y1 y2 y3))
 | 0 => ⟨fun _ _ _ _ _ _ r h => by simp [spec_l20Story.l0] at h, fun _ _ _ _ r h => by simp [spec_l20Story.l1] at h⟩
 | k + 1 => by
  obtain ⟨ih0, ih1⟩ := spec_l20Story.mono_l k
  refine ⟨?_, ?_⟩
  ·intro y0 y1 y2 y3 y4 y5
   unfold spec_l20Story.l0
   repeat' first
   | (with_reducible exact ih0 _ _ _ _ _ _)
   | (with_reducible exact ih1 _ _ _ _)
   | (with_reducible exact spec_l20Claim.mono _ _ _ _ _)
   | (with_reducible exact spec_l20Rd_odd.mono _ _ _ _)
   | (with_reducible exact spec_l20Rd_pick.mono _ _ _ _)
   | (with_reducible exact LeO.refl _)
   | (with_reducible exact LeO.none _)
   | (with_reducible refine LeO.ite ?_ ?_)
   | (with_reducible refine LeO.bind ?_ (fun _ => ?_))
   | exact ih0 _ _ _ _ _ _
   | exact ih1 _ _ _ _
   | exact spec_l20Claim.mono _ _ _ _ _
   | exact spec_l20Rd_odd.mono _ _ _ _
   | exact spec_l20Rd_pick.mono _ _ _ _
   | exact LeO.none _
   | refine LeO.ite ?_ ?_
   | refine LeO.bind ?_ (fun _ => ?_)
  ·intro y0 y1 y2 y3
   unfold spec_l20Story.l1
   repeat' first
   | (with_reducible exact ih0 _ _ _ _ _ _)
   | (with_reducible exact ih1 _ _ _ _)
   | (with_reducible exact spec_l20Claim.mono _ _ _ _ _)
   | (with_reducible exact spec_l20Rd_odd.mono _ _ _ _)
   | (with_reducible exact spec_l20Rd_pick.mono _ _ _ _)
   | (with_reducible exact LeO.refl _)
   | (with_reducible exact LeO.none _)
   | (with_reducible refine LeO.ite ?_ ?_)
   | (with_reducible refine LeO.bind ?_ (fun _ => ?_))
   | exact ih0 _ _ _ _ _ _
   | exact ih1 _ _ _ _
   | exact spec_l20Claim.mono _ _ _ _ _
   | exact spec_l20Rd_odd.mono _ _ _ _
   | exact spec_l20Rd_pick.mono _ _ _ _
   | exact LeO.none _
   | refine LeO.ite ?_ ?_
   | refine LeO.bind ?_ (fun _ => ?_)
theorem spec_l20Story.mono : ∀ a0 a1 a2 k, LeO (spec_l20Story.f k a0 a1 a2) (spec_l20Story.f (k + 1) a0 a1 a2) := by
 intro a0 a1 a2 k
 obtain ⟨ih0, ih1⟩ := spec_l20Story.mono_l k
 unfold spec_l20Story.f
 repeat' first
   | (with_reducible exact ih0 _ _ _ _ _ _)
   | (with_reducible exact ih1 _ _ _ _)
   | (with_reducible exact spec_l20Claim.mono _ _ _ _ _)
   | (with_reducible exact spec_l20Rd_odd.mono _ _ _ _)
   | (with_reducible exact spec_l20Rd_pick.mono _ _ _ _)
   | (with_reducible exact LeO.refl _)
   | (with_reducible exact LeO.none _)
   | (with_reducible refine LeO.ite ?_ ?_)
   | (with_reducible refine LeO.bind ?_ (fun _ => ?_))
   | exact ih0 _ _ _ _ _ _
   | exact ih1 _ _ _ _
   | exact spec_l20Claim.mono _ _ _ _ _
   | exact spec_l20Rd_odd.mono _ _ _ _
   | exact spec_l20Rd_pick.mono _ _ _ _
   | exact LeO.none _
   | refine LeO.ite ?_ ?_
   | refine LeO.bind ?_ (fun _ => ?_)
set_option maxHeartbeats 8000000 in
set_option maxRecDepth 100000 in
theorem spec_l20Story.calls (k : Nat) (g : Nat) (s0_0 : List Int) (s0_1 : Int) (a1 : Int) (r1 : Int) (r2 : List (S83)) (r3 : Int) (w0 w : World) (hI : IsS124 w0 w g s0_0 s0_1) (hB : Below w0.heap.size w0 w) (h : spec_l20Story.f k s0_0 s0_1 a1 = some (r1, r2, r3)) :
  Calls Try.prog 92 #[.pointer (some ⟨g, 0, none⟩), .int .i64 a1] w fun e w' => ∃ v1_ : Value, e = .returned (.tuple #[.int .i64 r1, v1_]) ∧ Kd.S k83 83 w' w.heap.size (fun _ => True) v1_ r2 ∧ IsS124 w0 w' g s0_0 r3 ∧ Below w0.heap.size w0 w' ∧ KeepBut w w' g none := by
 have hu81 := Try.underlying81
 have hu83 := Try.underlying83
 have HI0 := Aside0.mk hI
 have HK := Aside0.mk (KeepBut.refl w g none)
 have HL := Aside0.mk hB.size
 clear hI
 have HW0 := Aside0.mk hB.size
 have HB := Aside0.mk hB
 clear hB
 have H : ((spec_l20Rd_pick.f k s0_0 s0_1 4).bind fun bt224 => ((spec_l20Rd_pick.f k s0_0 bt224.2 5).bind fun bt229 => (spec_l20Story.l0 k a1 (wrap64 (1 + bt224.1)) (([] : List (S83))) bt229.1 s0_0 bt229.2))) = some (r1, r2, r3) := h
 clear h
 replace H := Option.bind_eq_some_iff.mp H
 obtain ⟨⟨t224, t225⟩, A30, H⟩ := H
 replace H : ((spec_l20Rd_pick.f k s0_0 t225 5).bind fun bt229 => (spec_l20Story.l0 k a1 (wrap64 (1 + t224)) (([] : List (S83))) bt229.1 s0_0 bt229.2)) = some (r1, r2, r3) := H
 have A3 := Aside0.mk A30
 clear A30
 obtain ⟨y226, hy226⟩ : ∃ y_ : List (S83), y_ = (([] : List (S83))) := ⟨_, rfl⟩
 replace H : ((spec_l20Rd_pick.f k s0_0 t225 5).bind fun bt229 => (spec_l20Story.l0 k a1 (wrap64 (1 + t224)) y226 bt229.1 s0_0 bt229.2)) = some (r1, r2, r3) := by first | (rw [hy226]; exact H) | exact H
 have Ny226 := Aside0.mk hy226
 clear hy226
 replace H := Option.bind_eq_some_iff.mp H
 obtain ⟨⟨t229, t230⟩, A40, H⟩ := H
 replace H : (spec_l20Story.l0 k a1 (wrap64 (1 + t224)) y226 t229 s0_0 t230) = some (r1, r2, r3) := H
 have A4 := Aside0.mk A40
 clear A40
 have H' := Aside0.mk H
 clear H
 go_enter Try.func92, Try.ntmps92
 go_wp2_with (first | ((with_reducible refine gate_callee (f := 107) rfl ?_); refine goesL_ (some 10) rfl rfl Try.func107 (by kernel_rfl) rfl #[.pointer (some ⟨g, 0, none⟩), .int .i64 4] rfl (by (try simp only [List.map_toArray, List.map_cons, List.map_nil]); first | done | rfl | (simp only [List.length_drop, List.length_take]; rfl)) ?_; (with_reducible refine (spec_l20Rd_pick.calls k g s0_0 s0_1 4 t224 t225 w0 _ ?side1 ?side2 A3.out).mono ?_); (case side1 => exact IsS124.below HI0.out lt_); (case side2 => exact below_at HB.out); rintro e w5 ⟨rfl, hi, hb, hk⟩; refine ⟨_, rfl, ?_⟩; have n0_ := Aside0.mk (KeepBut.trans (keep_at HK.out) hk (.inl rfl)); have n1_ := Aside0.mk (hb); have n2_ := Aside0.mk (hi); clear HK; clear HB; clear HI0; have HK := n0_; have HB := n1_; have HI0 := n2_; clear n0_ n1_ n2_; (try clear hb); (try clear hb2); (try clear hk); (try clear hi)) | ((with_reducible refine gate_dst (N := 12) rfl ?_); refine Kd.S_lit k83 _ 83 ?hg (N := 12) ?hd (xs := ([] : List (S83))) (inner := []) (ok := fun _ => True) (okp := fun _ => True) ?hr ?hp (fun _ hk => hk) trivial (Below.refl _ _) (Nat.le_refl _) (by simp) ?_; (case hd => rfl); (case hg => rfl); (case hr => first | (go_simp; done) | (go_simp; rfl)); (case hp => exact (Reps.none _ _)); intro v227 w6 ho7 hb hg_ hnew_; clear hg_ hnew_; (first | rw [← Ny226.out] at ho7 | (simp only [Int.reduceToNat] at ho7; rw [← Ny226.out] at ho7)); have n0_ := Aside0.mk (Kd.S_lower ho7 (keep_size (w := w) (g := g) (row := none) (keep_at HK.out))); have n1_ := Aside0.mk (IsS124.below (IsS124.below HI0.out lt_) hb); have n2_ := Aside0.mk (KeepBut.trans (keep_at HK.out) (KeepBut.of_below hb g none) (.inl rfl)); have n3_ := Aside0.mk (below_step (below_at HB.out) hb); clear HI0; clear HK; clear HB; have HO228 := n0_; have HI0 := n1_; have HK := n2_; have HB := n3_; clear n0_ n1_ n2_ n3_; clear hb ho7) | ((with_reducible refine gate_callee (f := 107) rfl ?_); refine goesL_ (some 14) rfl rfl Try.func107 (by kernel_rfl) rfl #[.pointer (some ⟨g, 0, none⟩), .int .i64 5] rfl (by (try simp only [List.map_toArray, List.map_cons, List.map_nil]); first | done | rfl | (simp only [List.length_drop, List.length_take]; rfl)) ?_; (with_reducible refine (spec_l20Rd_pick.calls k g s0_0 t225 5 t229 t230 w0 _ ?side1 ?side2 A4.out).mono ?_); (case side1 => exact IsS124.below HI0.out lt_); (case side2 => exact below_at HB.out); rintro e w8 ⟨rfl, hi, hb, hk⟩; refine ⟨_, rfl, ?_⟩; have n0_ := Aside0.mk (Kd.S_mono (Kd.S_keep (IsS124.apartS (show IsS124 w0 _ g s0_0 t225 from IsS124.below HI0.out lt_) (Kd.S_below HO228.out lt_) (by decide)) hk (fun _ h => h.2)) (fun _ h => h.1)); have n1_ := Aside0.mk (KeepBut.trans (keep_at HK.out) hk (.inl rfl)); have n2_ := Aside0.mk (hb); have n3_ := Aside0.mk (hi); clear HO228; clear HK; clear HB; clear HI0; have HO228 := n0_; have HK := n1_; have HB := n2_; have HI0 := n3_; clear n0_ n1_ n2_ n3_; (try clear hb); (try clear hb2); (try clear hk); (try clear hi)))
 go_loopg [7, 8] k (fun kq v7 v8 w' => ∃ (x7_1 : List (S83)) (x8_1 : Int) (x1001_1 : Int), v8 = .int .i64 x8_1 ∧ Aside0 (spec_l20Story.l0 kq a1 (wrap64 (1 + t224)) x7_1 x8_1 s0_0 x1001_1 = some (r1, r2, r3)) ∧ Aside0 (kq ≤ k) ∧ Aside0 (Kd.S k83 83 w' w.heap.size (fun _ => True) v7 x7_1) ∧ Aside0 (IsS124 w0 w' g s0_0 x1001_1) ∧ Aside0 (KeepBut w w' g none) ∧ Aside0 (Below w0.heap.size w0 w'))
 case atStart => exact ⟨(y226), (t229), (t230), (by first | rfl | (simp; done) | (simp [*]; done)), H', ⟨Nat.le_refl _⟩, ⟨Kd.S_below HO228.out lt_⟩, ⟨IsS124.below HI0.out lt_⟩, ⟨keep_at HK.out⟩, ⟨below_at HB.out⟩⟩
 case round =>
  clear H'
  try clear c1
  try clear p2
  try clear p6
  obtain ⟨x7_1, x8_1, x1001_1, rfl, HA, HK1, HO_7, HI0, HK, HB⟩ := hrel
  cases gk with
  | zero => exact absurd HA.out (by simp [spec_l20Story.l0])
  | succ k1 =>
   have H := HA.out
   clear HA
   simp only [spec_l20Story.l0] at H
   by_cases c9 : x8_1 > 0
   ·rw [if_pos c9] at H
    have c9b0 : decide (0 < x8_1) = true := decide_eq_true c9
    clear c9
    replace H := Option.bind_eq_some_iff.mp H
    obtain ⟨⟨t231, t232, t235⟩, A100, H⟩ := H
    replace H : (if x7_1.length < 4398046511104 then (spec_l20Story.l0 k1 a1 (wrap64 (1 + t224)) (x7_1 ++ [(⟨t231, t232⟩ : S83)]) (wrap64 (x8_1 - 1)) s0_0 t235) else (none)) = some (r1, r2, r3) := H
    have A10 := Aside0.mk A100
    clear A100
    by_cases c11 : x7_1.length < 4398046511104
    ·rw [if_pos c11] at H
     have LMc11 := Aside0.mk c11
     clear c11
     obtain ⟨y236, hy236⟩ : ∃ y_ : List (S83), y_ = (x7_1 ++ [(⟨t231, t232⟩ : S83)]) := ⟨_, rfl⟩
     replace H : (spec_l20Story.l0 k1 a1 (wrap64 (1 + t224)) y236 (wrap64 (x8_1 - 1)) s0_0 t235) = some (r1, r2, r3) := by first | (rw [hy236]; exact H) | exact H
     have Ny236 := Aside0.mk hy236
     clear hy236
     have H' := Aside0.mk H
     clear H
     go_wp2_with (first | ((with_reducible refine gate_callee (f := 114) rfl ?_); refine goesL_ (some 24) rfl rfl Try.func114 (by kernel_rfl) rfl #[.pointer (some ⟨g, 0, none⟩), .int .i64 (wrap64 (1 + t224)), .int .i64 (wrap64 (a1 * 3))] rfl (by (try simp only [List.map_toArray, List.map_cons, List.map_nil]); first | done | rfl | (simp only [List.length_drop, List.length_take]; rfl)) ?_; (with_reducible refine (spec_l20Claim.calls k1 g s0_0 x1001_1 (wrap64 (1 + t224)) (wrap64 (a1 * 3)) t231 t232 t235 w0 _ ?side1 ?side2 A10.out).mono ?_); (case side1 => exact IsS124.below HI0.out lt_); (case side2 => exact below_at HB.out); rintro e w12 ⟨v233, rfl, ho0, hi, hb, hk⟩; refine ⟨_, rfl, ?_⟩; have n0_ := Aside0.mk (Kd.S_mono (Kd.S_told (Kd.S_oldK (IsS124.apartS (show IsS124 w0 _ g s0_0 x1001_1 from IsS124.below HI0.out lt_) (Kd.S_below HO_7.out lt_) (by decide)) hk) (Kd.R_base ho0)) (fun _ h_ => h_.1)); have n1_ := Aside0.mk (Kd.R_lower ho0 (keep_size (w := w) (g := g) (row := none) (keep_at HK.out))); have n2_ := Aside0.mk (KeepBut.trans (keep_at HK.out) hk (.inl rfl)); have n3_ := Aside0.mk (hb); have n4_ := Aside0.mk (hi); clear HO_7; clear HK; clear HB; clear HI0; have HO_7 := n0_; have HO234 := n1_; have HK := n2_; have HB := n3_; have HI0 := n4_; clear n0_ n1_ n2_ n3_ n4_; (try clear hb); (try clear hb2); (try clear hk); (try clear hi); (try clear ho0); obtain ⟨Ao14, co14, eo14⟩ := Kd.R_slice HO234.out; subst eo14) | ((with_reducible refine gate_builtin (b := .append) (xs := #[.tmp 19, .tmp 25]) rfl ?_); at_builtin; refine Kd.S_append k83 w.heap.size rfl (.tmp 19) (.tmp 25) 35 83 (.agg #[(.int .i64 0), (.slice none 0 0)]) 32 rfl Try.underlying35 info83 rfl (by decide) (by omega) u7 x7_1 (⟨t231, t232⟩ : S83) [.int .i64 t231, .slice Ao14 t232.length co14] (fun _ => True) (fun k_ => some k_ = (.slice Ao14 t232.length co14 : Value).ownBlock) rfl rfl ?aP (fun k_ hk_ => ((Kd.R_mono (ok' := fun k_ => ((fun _ => True)) k_ ∧ some k_ ≠ (u7 : Value).ownBlock) (Kd.R_apart' (HO234.out) (Kd.S_typed HO_7.out) (by decide)) (fun k_ hk => ⟨trivial, hk.2⟩))).1 k_ hk_.symm) ?aF ?aO (Below.refl _ _) ?aS ?aL ?_; (case aP => exact k83_mkM _ _ _ (⟨t231, t232⟩ : S83) (Kd.R_mono (Kd.R_tight rfl (Kd.R_mono (ok' := fun k_ => ((fun _ => True)) k_ ∧ some k_ ≠ (u7 : Value).ownBlock) (Kd.R_apart' (HO234.out) (Kd.S_typed HO_7.out) (by decide)) (fun k_ hk => ⟨trivial, hk.2⟩))) (fun _ h_ => h_))); (case aF => exact (fun _ _ => trivial)); (case aO => exact (Kd.S_below (Kd.S_mono HO_7.out (fun k_ hk => ⟨trivial, fun e_ => hk.2 e_⟩)) lt_)); (case aS => exact (keep_size (w := w) (g := g) (row := none) (keep_at HK.out))); (case aL => have := LMc11.out; omega); intro v237 w13 ho hb hg hat; rw [← Ny236.out] at ho; have n0_ := Aside0.mk (IsS124.grown (IsS124.below HI0.out lt_) hg (IsS124.own_neS HI0.out HO_7.out (by decide))); have n1_ := Aside0.mk (below_weaken (below_at HB.out) HL.out hb); have n2_ := Aside0.mk (KeepBut.trans (keep_at HK.out) (KeepBut.of_grown hg g) (Kd.S_base2 HO_7.out)); have n3_ := Aside0.mk (ho); clear HI0; clear HB; clear HK; clear HO_7; clear HO234; have HI0 := n0_; have HB := n1_; have HK := n2_; have HO238 := n3_; clear n0_ n1_ n2_ n3_; clear ho hb hg hat))
     go_roundg k1
     case measure => have := HK1.out; omega
     case rel => exact ⟨(y236), (wrap64 (x8_1 - 1)), (t235), (by first | rfl | (simp; done) | (simp [*]; done)), H', ⟨by have := HK1.out; omega⟩, ⟨Kd.S_below HO238.out lt_⟩, ⟨IsS124.below HI0.out lt_⟩, ⟨keep_at HK.out⟩, ⟨below_at HB.out⟩⟩
    ·rw [if_neg c11] at H
     exact absurd H (by simp)
   ·rw [if_neg c9] at H
    have c9b0 : decide (0 < x8_1) = false := decide_eq_false c9
    clear c9
    replace H := Option.bind_eq_some_iff.mp H
    obtain ⟨⟨t239, t240⟩, A150, H⟩ := H
    replace H : (if t239 = true then (spec_l20Story.l1 k1 (wrap64 (1 + t224)) x7_1 s0_0 t240) else (some ((wrap64 (1 + t224)), x7_1, t240))) = some (r1, r2, r3) := H
    have A15 := Aside0.mk A150
    clear A150
    by_cases c16 : t239 = true
    ·subst c16
     have H1 : (spec_l20Story.l1 k1 (wrap64 (1 + t224)) x7_1 s0_0 t240) = some (r1, r2, r3) := by rw [if_pos rfl] at H; exact H
     clear H
     have H := H1
     clear H1
     have H' := Aside0.mk H
     clear H
     go_wp2_with (first | ((with_reducible refine gate_callee (f := 115) rfl ?_); refine goesL_ (some 29) rfl rfl Try.func115 (by kernel_rfl) rfl #[.pointer (some ⟨g, 0, none⟩), .int .i64 a1] rfl (by (try simp only [List.map_toArray, List.map_cons, List.map_nil]); first | done | rfl | (simp only [List.length_drop, List.length_take]; rfl)) ?_; (with_reducible refine (spec_l20Rd_odd.calls k1 g s0_0 x1001_1 a1 true t240 w0 _ ?side1 ?side2 A15.out).mono ?_); (case side1 => exact IsS124.below HI0.out lt_); (case side2 => exact below_at HB.out); rintro e w17 ⟨rfl, hi, hb, hk⟩; refine ⟨_, rfl, ?_⟩; have n0_ := Aside0.mk (Kd.S_mono (Kd.S_keep (IsS124.apartS (show IsS124 w0 _ g s0_0 x1001_1 from IsS124.below HI0.out lt_) (Kd.S_below HO_7.out lt_) (by decide)) hk (fun _ h => h.2)) (fun _ h => h.1)); have n1_ := Aside0.mk (KeepBut.trans (keep_at HK.out) hk (.inl rfl)); have n2_ := Aside0.mk (hb); have n3_ := Aside0.mk (hi); clear HO_7; clear HK; clear HB; clear HI0; have HO_7 := n0_; have HK := n1_; have HB := n2_; have HI0 := n3_; clear n0_ n1_ n2_ n3_; (try clear hb); (try clear hb2); (try clear hk); (try clear hi)))
     (try simp only [Act.put, List.setIfInBounds_toArray, List.set_cons_zero, List.set_cons_succ])
     go_loopg [7] k1 (fun kq v7 w' => ∃ (x7_2 : List (S83)), Aside0 (spec_l20Story.l1 kq (wrap64 (1 + t224)) x7_2 s0_0 t240 = some (r1, r2, r3)) ∧ Aside0 (kq ≤ k1) ∧ Aside0 (Kd.S k83 83 w' w.heap.size (fun _ => True) v7 x7_2) ∧ Aside0 (IsS124 w0 w' g s0_0 t240) ∧ Aside0 (KeepBut w w' g none) ∧ Aside0 (Below w0.heap.size w0 w'))
     case atStart => exact ⟨(x7_1), H', ⟨Nat.le_refl _⟩, ⟨Kd.S_below HO_7.out lt_⟩, ⟨IsS124.below HI0.out lt_⟩, ⟨keep_at HK.out⟩, ⟨below_at HB.out⟩⟩
     case round =>
      clear H'
      try clear c1
      try clear p2
      try clear p6
      try clear c9
      try clear c9b0
      try clear c10
      try clear c11
      try clear c16
      try clear p2
      try clear p6
      obtain ⟨x7_2, HA, HK2, HO_7, HI0, HK, HB⟩ := hrel
      cases gk with
      | zero => exact absurd HA.out (by simp [spec_l20Story.l1])
      | succ k2 =>
       have H := HA.out
       clear HA
       simp only [spec_l20Story.l1] at H
       by_cases c18 : (x7_2.length : Int) < 7
       ·rw [if_pos c18] at H
        have c18b0 : decide ((x7_2.length : Int) < 7) = true := decide_eq_true c18
        have c18b1 : decide (x7_2.length < 7) = true := decide_eq_true (by omega)
        clear c18
        obtain ⟨y241, hy241⟩ : ∃ y_ : List (S81), y_ = (([(⟨0, 0⟩ : S81)] : List (S81))) := ⟨_, rfl⟩
        replace H : (if x7_2.length < 4398046511104 then (spec_l20Story.l1 k2 (wrap64 (1 + t224)) (x7_2 ++ [(⟨0, y241⟩ : S83)]) s0_0 t240) else (none)) = some (r1, r2, r3) := by first | (rw [hy241]; exact H) | exact H
        have Ny241 := Aside0.mk hy241
        clear hy241
        by_cases c19 : x7_2.length < 4398046511104
        ·rw [if_pos c19] at H
         have LMc19 := Aside0.mk c19
         clear c19
         obtain ⟨y244, hy244⟩ : ∃ y_ : List (S83), y_ = (x7_2 ++ [(⟨0, y241⟩ : S83)]) := ⟨_, rfl⟩
         replace H : (spec_l20Story.l1 k2 (wrap64 (1 + t224)) y244 s0_0 t240) = some (r1, r2, r3) := by first | (rw [hy244]; exact H) | exact H
         have Ny244 := Aside0.mk hy244
         clear hy244
         have H' := Aside0.mk H
         clear H
         obtain ⟨Ao20, co20, eo20⟩ := Kd.S_slice HO_7.out
         subst eo20
         go_wp2_with (first | ((with_reducible refine gate_dst (N := 35) rfl ?_); refine Kd.R_lit k81 _ 81 ?hg (N := 35) ?hd (xs := ([(⟨0, 0⟩ : S81)] : List (S81))) (inner := [.int .i64 0, .int .i64 0]) (ok := fun _ => True) (okp := fun _ => True) ?hr ?hp (fun _ hk => hk) trivial (Below.refl _ _) (Nat.le_refl _) (by simp) ?_; (case hd => rfl); (case hg => rfl); (case hr => first | (go_simp; done) | (go_simp; rfl)); (case hp => exact (Reps.c2 (show Kd.M k81 _ _ _ (⟨0, 0⟩ : S81) [.int .i64 0, .int .i64 0] from (k81_mkM _ _ _ (⟨0, 0⟩ : S81) )) (Reps.none _ _))); intro v242 w21 ho22 hb hg_ hnew_; clear hg_ hnew_; (first | rw [← Ny241.out] at ho22 | (simp only [Int.reduceToNat] at ho22; rw [← Ny241.out] at ho22)); have n0_ := Aside0.mk (Kd.S_elder' (Kd.S_below HO_7.out lt_) (Kd.R_base ho22) hb); have n1_ := Aside0.mk (Kd.R_lower ho22 (keep_size (w := w) (g := g) (row := none) (keep_at HK.out))); have n2_ := Aside0.mk (IsS124.below (IsS124.below HI0.out lt_) hb); have n3_ := Aside0.mk (KeepBut.trans (keep_at HK.out) (KeepBut.of_below hb g none) (.inl rfl)); have n4_ := Aside0.mk (below_step (below_at HB.out) hb); clear HO_7; clear HI0; clear HK; clear HB; have HO_7 := n0_; have HO243 := n1_; have HI0 := n2_; have HK := n3_; have HB := n4_; clear n0_ n1_ n2_ n3_ n4_; clear hb ho22; obtain ⟨Ao23, co23, eo23⟩ := Kd.R_slice HO243.out; subst eo23) | ((with_reducible refine gate_builtin (b := .append) (xs := #[.tmp 33, .tmp 37]) rfl ?_); at_builtin; refine Kd.S_append k83 w.heap.size rfl (.tmp 33) (.tmp 37) 35 83 (.agg #[(.int .i64 0), (.slice none 0 0)]) 32 rfl Try.underlying35 info83 rfl (by decide) (by omega) (.slice Ao20 x7_2.length co20) x7_2 (⟨0, y241⟩ : S83) [.int .i64 0, .slice Ao23 y241.length co23] (fun _ => True) (fun k_ => some k_ = (.slice Ao23 y241.length co23 : Value).ownBlock) rfl rfl ?aP (fun k_ hk_ => ((Kd.R_mono (ok' := fun k_ => ((fun _ => True)) k_ ∧ some k_ ≠ (.slice Ao20 x7_2.length co20 : Value).ownBlock) (Kd.R_apart' (HO243.out) (Kd.S_typed HO_7.out) (by decide)) (fun k_ hk => ⟨trivial, hk.2⟩))).1 k_ hk_.symm) ?aF ?aO (Below.refl _ _) ?aS ?aL ?_; (case aP => exact k83_mkM _ _ _ (⟨0, y241⟩ : S83) (Kd.R_mono (Kd.R_tight rfl (Kd.R_mono (ok' := fun k_ => ((fun _ => True)) k_ ∧ some k_ ≠ (.slice Ao20 x7_2.length co20 : Value).ownBlock) (Kd.R_apart' (HO243.out) (Kd.S_typed HO_7.out) (by decide)) (fun k_ hk => ⟨trivial, hk.2⟩))) (fun _ h_ => h_))); (case aF => exact (fun _ _ => trivial)); (case aO => exact (Kd.S_below (Kd.S_mono HO_7.out (fun k_ hk => ⟨trivial, fun e_ => hk.2 e_⟩)) lt_)); (case aS => exact (keep_size (w := w) (g := g) (row := none) (keep_at HK.out))); (case aL => have := LMc19.out; omega); intro v245 w24 ho hb hg hat; rw [← Ny244.out] at ho; have n0_ := Aside0.mk (IsS124.grown (IsS124.below HI0.out lt_) hg (IsS124.own_neS HI0.out HO_7.out (by decide))); have n1_ := Aside0.mk (below_weaken (below_at HB.out) HL.out hb); have n2_ := Aside0.mk (KeepBut.trans (keep_at HK.out) (KeepBut.of_grown hg g) (Kd.S_base2 HO_7.out)); have n3_ := Aside0.mk (ho); clear HI0; clear HB; clear HK; clear HO_7; clear HO243; have HI0 := n0_; have HB := n1_; have HK := n2_; have HO246 := n3_; clear n0_ n1_ n2_ n3_; clear ho hb hg hat))
         go_roundg k2
         case measure => have := HK1.out; have := HK2.out; omega
         case rel => exact ⟨(y244), H', ⟨by have := HK1.out; have := HK2.out; omega⟩, ⟨Kd.S_below HO246.out lt_⟩, ⟨IsS124.below HI0.out lt_⟩, ⟨keep_at HK.out⟩, ⟨below_at HB.out⟩⟩
        ·rw [if_neg c19] at H
         exact absurd H (by simp)
       ·rw [if_neg c18] at H
        have c18b0 : decide ((x7_2.length : Int) < 7) = false := decide_eq_false c18
        have c18b1 : decide (x7_2.length < 7) = false := decide_eq_false (by omega)
        clear c18
        simp only [Option.some.injEq, Prod.mk.injEq] at H
        obtain ⟨rfl, rfl, rfl⟩ := H
        obtain ⟨Ao25, co25, eo25⟩ := Kd.S_slice HO_7.out
        subst eo25
        go_wp2
        go_ret2
        exact ⟨_, by first | rfl | (simp [errW_none, errW_some] <;> rfl) | (simp [*, errW_none, errW_some] <;> rfl), by (with_reducible repeat (first | apply Kd.S_alloc | apply Kd.S_drewN | apply Kd.S_drew)); exact HO_7.out, IsS124.below HI0.out lt_, below_at HB.out, keep_at HK.out⟩
    ·replace c16 := Bool.eq_false_iff.mpr c16
     subst c16
     have H1 : (some ((wrap64 (1 + t224)), x7_1, t240)) = some (r1, r2, r3) := by rw [if_neg (show ¬ (false = true) by decide)] at H; exact H
     clear H
     have H := H1
     clear H1
     simp only [Option.some.injEq, Prod.mk.injEq] at H
     obtain ⟨rfl, rfl, rfl⟩ := H
     go_wp2_with (first | ((with_reducible refine gate_callee (f := 115) rfl ?_); refine goesL_ (some 29) rfl rfl Try.func115 (by kernel_rfl) rfl #[.pointer (some ⟨g, 0, none⟩), .int .i64 a1] rfl (by (try simp only [List.map_toArray, List.map_cons, List.map_nil]); first | done | rfl | (simp only [List.length_drop, List.length_take]; rfl)) ?_; (with_reducible refine (spec_l20Rd_odd.calls k1 g s0_0 x1001_1 a1 false t240 w0 _ ?side1 ?side2 A15.out).mono ?_); (case side1 => exact IsS124.below HI0.out lt_); (case side2 => exact below_at HB.out); rintro e w26 ⟨rfl, hi, hb, hk⟩; refine ⟨_, rfl, ?_⟩; have n0_ := Aside0.mk (Kd.S_mono (Kd.S_keep (IsS124.apartS (show IsS124 w0 _ g s0_0 x1001_1 from IsS124.below HI0.out lt_) (Kd.S_below HO_7.out lt_) (by decide)) hk (fun _ h => h.2)) (fun _ h => h.1)); have n1_ := Aside0.mk (KeepBut.trans (keep_at HK.out) hk (.inl rfl)); have n2_ := Aside0.mk (hb); have n3_ := Aside0.mk (hi); clear HO_7; clear HK; clear HB; clear HI0; have HO_7 := n0_; have HK := n1_; have HB := n2_; have HI0 := n3_; clear n0_ n1_ n2_ n3_; (try clear hb); (try clear hb2); (try clear hk); (try clear hi)))
     go_ret2
     exact ⟨_, by first | rfl | (simp [errW_none, errW_some] <;> rfl) | (simp [*, errW_none, errW_some] <;> rfl), by (with_reducible repeat (first | apply Kd.S_alloc | apply Kd.S_drewN | apply Kd.S_drew)); exact HO_7.out, IsS124.below HI0.out lt_, below_at HB.out, keep_at HK.out⟩

/-! ### spec_TableOk: function 123 -/
def spec_TableOk.f (a0 : Int) (a1 : Int) : Option (Bool) := (spec_l1In.f a0 1 4).bind fun t247 => (if t247 = true then (if 0 ≤ a0 then ((spec_l1In.f a1 0 (wrap64 ((shl .i64 1 (shl .u64 1 a0)) - 1))).bind fun t248 => (some t248)) else (none)) else (some false))
set_option maxHeartbeats 8000000 in
set_option maxRecDepth 100000 in
theorem spec_TableOk.calls (a0 : Int) (a1 : Int) (r : Bool) (w : World) (h : spec_TableOk.f a0 a1 = some r) :
  Calls Try.prog 123 #[.int .i64 a0, .int .i64 a1] w fun e w' => e = .returned (.bool r) ∧ Drawn0 w w' := by
 have H : ((spec_l1In.f a0 1 4).bind fun t247 => (if t247 = true then (if 0 ≤ a0 then ((spec_l1In.f a1 0 (wrap64 ((shl .i64 1 (shl .u64 1 a0)) - 1))).bind fun t248 => (some t248)) else (none)) else (some false))) = some r := h
 clear h
 replace H := Option.bind_eq_some_iff.mp H
 obtain ⟨t247, A30, H⟩ := H
 replace H : (if t247 = true then (if 0 ≤ a0 then ((spec_l1In.f a1 0 (wrap64 ((shl .i64 1 (shl .u64 1 a0)) - 1))).bind fun t248 => (some t248)) else (none)) else (some false)) = some r := H
 have A3 := Aside0.mk A30
 clear A30
 by_cases c4 : t247 = true
 ·subst c4
  have H1 : (if 0 ≤ a0 then ((spec_l1In.f a1 0 (wrap64 ((shl .i64 1 (shl .u64 1 a0)) - 1))).bind fun t248 => (some t248)) else (none)) = some r := by rw [if_pos rfl] at H; exact H
  clear H
  have H := H1
  clear H1
  by_cases c5 : 0 ≤ a0
  ·rw [if_pos c5] at H
   have c5b0 := eq_true c5
   have c5b1 : decide (0 ≤ a0) = true := decide_eq_true c5
   clear c5
   obtain ⟨ji6, hji6⟩ : ∃ j_ : Int, (shl .u64 1 a0) = j_ := ⟨_, rfl⟩
   replace H : ((spec_l1In.f a1 0 (wrap64 ((shl .i64 1 (ji6)) - 1))).bind fun t248 => (some t248)) = some r := by first | (rw [hji6] at H; exact H) | (simp only [hji6] at H ⊢; exact H)
   (try rw [hji6] at A3)
   have hji6n : 0 ≤ ji6 := by rw [← hji6]; unfold shl; generalize (1 : Int) * 2 ^ min a0.toNat (IntKind.bits .u64) = q_; simp [IntKind.wrap, IntKind.bits, IntKind.signed]; omega
   have hji6e := eq_true hji6n
   have hji6f : decide (ji6 < 0) = false := decide_eq_false (Int.not_lt.mpr hji6n)
   clear hji6n
   have hji6_ : (IntKind.u64.wrap (1 * 2 ^ min a0.toNat 64)) = ji6 := hji6
   have hji6z : a0 ≤ 64 → (IntKind.u64.wrap (1 * 2 ^ a0.toNat)) = ji6 := shl_small hji6
   have hji6u : (IntKind.u64.wrap (2 ^ min a0.toNat 64)) = ji6 := by have h_ := hji6_; rw [Int.one_mul] at h_; exact h_
   have hji6v : a0 ≤ 64 → (IntKind.u64.wrap (2 ^ a0.toNat)) = ji6 := fun hle_ => by have h_ := hji6z hle_; rw [Int.one_mul] at h_; exact h_
   obtain ⟨ji7, hji7⟩ : ∃ j_ : Int, (shl .i64 1 (ji6)) = j_ := ⟨_, rfl⟩
   replace H : ((spec_l1In.f a1 0 (wrap64 ((ji7) - 1))).bind fun t248 => (some t248)) = some r := by first | (rw [hji7] at H; exact H) | (simp only [hji7] at H ⊢; exact H)
   (try rw [hji7] at A3)
   have hji7_ : (IntKind.i64.wrap (1 * 2 ^ min (ji6).toNat 64)) = ji7 := hji7
   have hji7z : (ji6) ≤ 64 → (IntKind.i64.wrap (1 * 2 ^ (ji6).toNat)) = ji7 := shl_small hji7
   have hji7u : (IntKind.i64.wrap (2 ^ min (ji6).toNat 64)) = ji7 := by have h_ := hji7_; rw [Int.one_mul] at h_; exact h_
   have hji7v : (ji6) ≤ 64 → (IntKind.i64.wrap (2 ^ (ji6).toNat)) = ji7 := fun hle_ => by have h_ := hji7z hle_; rw [Int.one_mul] at h_; exact h_
   have hji7y : (wrap64 (1 * 2 ^ min (ji6).toNat 64)) = ji7 := (i64_w _).symm.trans hji7_
   have hji7x : (ji6) ≤ 64 → (wrap64 (1 * 2 ^ (ji6).toNat)) = ji7 := fun h_ => (i64_w _).symm.trans (hji7z h_)
   replace H := Option.bind_eq_some_iff.mp H
   obtain ⟨t248, A80, H⟩ := H
   replace H : (some t248) = some r := H
   have A8 := Aside0.mk A80
   clear A80
   obtain rfl := Option.some.inj H
   go_enter Try.func123, Try.ntmps123
   go_wp2_with (first | ((with_reducible refine gate_callee (f := 99) rfl ?_); refine goesL_ (some 6) rfl rfl Try.func99 (by kernel_rfl) rfl #[.int .i64 a0, .int .i64 1, .int .i64 4] rfl (by (try simp only [List.map_toArray, List.map_cons, List.map_nil]); first | done | rfl | (simp only [List.length_drop, List.length_take]; rfl)) ?_; (with_reducible refine (spec_l1In.calls a0 1 4 true _ A3.out).mono ?_); rintro e w' ⟨rfl, ⟨nd, rfl⟩⟩; refine ⟨_, rfl, ?_⟩) | (go_at_call 99; (with_reducible refine (spec_l1In.calls a1 0 (wrap64 ((ji7) - 1)) t248 _ A8.out).mono ?_); rintro e w' ⟨rfl, ⟨nd, rfl⟩⟩))
   go_ret
   exact ⟨by first | rfl | (simp; done) | (simp only [← hji6, ← hji7] <;> (first | rfl | simp)) | (simp [*]; done), by repeat (first | exact Drawn0.refl _ | apply Drawn0.step)⟩
  ·rw [if_neg c5] at H
   exact absurd H (by simp)
 ·replace c4 := Bool.eq_false_iff.mpr c4
  subst c4
  have H1 : (some false) = some r := by rw [if_neg (show ¬ (false = true) by decide)] at H; exact H
  clear H
  have H := H1
  clear H1
  obtain rfl := Option.some.inj H
  go_enter Try.func123, Try.ntmps123
  go_wp2_with (first | ((with_reducible refine gate_callee (f := 99) rfl ?_); refine goesL_ (some 6) rfl rfl Try.func99 (by kernel_rfl) rfl #[.int .i64 a0, .int .i64 1, .int .i64 4] rfl (by (try simp only [List.map_toArray, List.map_cons, List.map_nil]); first | done | rfl | (simp only [List.length_drop, List.length_take]; rfl)) ?_; (with_reducible refine (spec_l1In.calls a0 1 4 false _ A3.out).mono ?_); rintro e w' ⟨rfl, ⟨nd, rfl⟩⟩; refine ⟨_, rfl, ?_⟩))
  go_ret
  exact ⟨by first | rfl | (simp; done) | (simp [*]; done), by repeat (first | exact Drawn0.refl _ | apply Drawn0.step)⟩

/-! ### spec_WorldsIn: function 117 -/
mutual
def spec_WorldsIn.l0 : Nat → Int → Int → List Int → Int → Option (List Int)
 | 0, _, _, _, _ => none
 | k + 1, x0, x1, x5, x6 => (spec_TableOk.f x0 x1).bind fun t252 => (if t252 = true then (if 0 ≤ x0 then (spec_WorldsIn.j1 k x0 x1 x5 x6 (decide (x6 < (shl .i64 1 x0)))) else (none)) else (spec_WorldsIn.j1 k x0 x1 x5 x6 false))
def spec_WorldsIn.j1 : Nat → Int → Int → List Int → Int → Bool → Option (List Int)
 | 0, _, _, _, _, _ => none
 | k + 1, x0, x1, x5, x6, x16 => if x16 = true then (if 0 ≤ x6 then (if (Int.tmod (shr .i64 x1 x6) 2) = 1 then (if x5.length < 17592186044416 then (spec_WorldsIn.l0 k x0 x1 (x5 ++ [x6]) (wrap64 (x6 + 1))) else (none)) else (spec_WorldsIn.l0 k x0 x1 x5 (wrap64 (x6 + 1)))) else (none)) else (some x5)
end
def spec_WorldsIn.f (k : Nat) (a0 : Int) (a1 : Int) : Option (List Int) := spec_WorldsIn.l0 k a0 a1 (([] : List Int)) 0
theorem spec_WorldsIn.mono_l : ∀ k, (∀ y0 y1 y2 y3, LeO (spec_WorldsIn.l0 k y0 y1 y2 y3) (spec_WorldsIn.l0 (k + 1) y0 y1 y2 y3)) ∧ (∀ y0 y1 y2 y3 y4, LeO (spec_WorldsIn.j1 k y0 y1 y2 y3 y4) (spec_WorldsIn.j1 (k + 1) y0 y1 y2 y3 y4))
 | 0 => ⟨fun _ _ _ _ r h => by simp [spec_WorldsIn.l0] at h, fun _ _ _ _ _ r h => by simp [spec_WorldsIn.j1] at h⟩
 | k + 1 => by
  obtain ⟨ih0, ih1⟩ := spec_WorldsIn.mono_l k
  refine ⟨?_, ?_⟩
  ·intro y0 y1 y2 y3
   unfold spec_WorldsIn.l0
   repeat' first
   | (with_reducible exact ih0 _ _ _ _)
   | (with_reducible exact ih1 _ _ _ _ _)
   | (with_reducible exact LeO.refl _)
   | (with_reducible exact LeO.none _)
   | (with_reducible refine LeO.ite ?_ ?_)
   | (with_reducible refine LeO.bind ?_ (fun _ => ?_))
   | exact ih0 _ _ _ _
   | exact ih1 _ _ _ _ _
   | exact LeO.none _
   | refine LeO.ite ?_ ?_
   | refine LeO.bind ?_ (fun _ => ?_)
  ·intro y0 y1 y2 y3 y4
   unfold spec_WorldsIn.j1
   repeat' first
   | (with_reducible exact ih0 _ _ _ _)
   | (with_reducible exact ih1 _ _ _ _ _)
   | (with_reducible exact LeO.refl _)
   | (with_reducible exact LeO.none _)
   | (with_reducible refine LeO.ite ?_ ?_)
   | (with_reducible refine LeO.bind ?_ (fun _ => ?_))
   | exact ih0 _ _ _ _
   | exact ih1 _ _ _ _ _
   | exact LeO.none _
   | refine LeO.ite ?_ ?_
   | refine LeO.bind ?_ (fun _ => ?_)
theorem spec_WorldsIn.mono : ∀ a0 a1 k, LeO (spec_WorldsIn.f k a0 a1) (spec_WorldsIn.f (k + 1) a0 a1) := by
 intro a0 a1 k
 obtain ⟨ih0, ih1⟩ := spec_WorldsIn.mono_l k
 unfold spec_WorldsIn.f
 repeat' first
   | (with_reducible exact ih0 _ _ _ _)
   | (with_reducible exact ih1 _ _ _ _ _)
   | (with_reducible exact LeO.refl _)
   | (with_reducible exact LeO.none _)
   | (with_reducible refine LeO.ite ?_ ?_)
   | (with_reducible refine LeO.bind ?_ (fun _ => ?_))
   | exact ih0 _ _ _ _
   | exact ih1 _ _ _ _ _
   | exact LeO.none _
   | refine LeO.ite ?_ ?_
   | refine LeO.bind ?_ (fun _ => ?_)
set_option maxHeartbeats 8000000 in
set_option maxRecDepth 100000 in
theorem spec_WorldsIn.calls (k : Nat) (a0 : Int) (a1 : Int) (r : List Int) (w : World) (h : spec_WorldsIn.f k a0 a1 = some r) :
  Calls Try.prog 117 #[.int .i64 a0, .int .i64 a1] w fun e w' => ∃ v0_ : Value, e = .returned (v0_) ∧ Kd.R (Kd.int .i64) 3 w' w.heap.size (fun _ => True) v0_ r ∧ Below w.heap.size w w' := by
 have HB := Aside0.mk (Below.refl w.heap.size w)
 have H : (spec_WorldsIn.l0 k a0 a1 (([] : List Int)) 0) = some r := h
 clear h
 obtain ⟨y249, hy249⟩ : ∃ y_ : List Int, y_ = (([] : List Int)) := ⟨_, rfl⟩
 replace H : (spec_WorldsIn.l0 k a0 a1 y249 0) = some r := by first | (rw [hy249]; with_reducible exact H) | (have H2_ := (Option.bind_some _ _).symm.trans H; rw [hy249]; with_reducible exact H2_) | (have H2_ := (Option.bind_some _ _).symm.trans H; with_reducible exact H2_) | with_reducible exact H | (rw [hy249]; exact H) | exact H
 have Ny249 := Aside0.mk hy249
 clear hy249
 have H' := Aside0.mk H
 clear H
 go_enter Try.func117, Try.ntmps117
 go_wp2_with (first | ((with_reducible refine gate_dst (N := 7) rfl ?_); refine Kd.R_lit (Kd.int .i64) _ 3 ?hg (N := 7) ?hd (xs := ([] : List Int)) (inner := []) (ok := fun _ => True) (okp := fun _ => True) ?hr ?hp (fun _ hk => hk) trivial (Below.refl _ _) (Nat.le_refl _) (by simp) ?_; (case hd => rfl); (case hg => rfl); (case hr => first | (go_simp; done) | (go_simp; rfl)); (case hp => exact (Reps.none _ _)); intro v250 w3 ho4 hb hg_ hnew_; clear hg_ hnew_; (first | rw [← Ny249.out] at ho4 | (simp only [Int.reduceToNat] at ho4; rw [← Ny249.out] at ho4)); have n0_ := Aside0.mk (Kd.R_lower ho4 (below_size (by repeat (first | (with_reducible first | exact HB.out | apply below_alloc | apply pw_below_drewN | apply below_drew1) | exact HB.out)))); have n1_ := Aside0.mk (below_step (by repeat (first | (with_reducible first | exact HB.out | apply below_alloc | apply pw_below_drewN | apply below_drew1) | exact HB.out)) hb); clear HB; have HO251 := n0_; have HB := n1_; clear n0_ n1_; clear hb ho4))
 go_loopg [5, 6] k (fun kq v5 v6 w' => ∃ (x5_1 : List Int) (x6_1 : Int), v6 = .int .i64 x6_1 ∧ Aside0 (spec_WorldsIn.l0 kq a0 a1 x5_1 x6_1 = some r) ∧ Aside0 (kq ≤ k) ∧ Aside0 (Kd.R (Kd.int .i64) 3 w' w.heap.size (fun _ => True) v5 x5_1) ∧ Aside0 (Below w.heap.size w w'))
 case atStart => exact ⟨(y249), (0), (by first | rfl | (simp; done) | (simp [*]; done)), H', ⟨Nat.le_refl _⟩, ⟨by (with_reducible repeat (first | apply Kd.R_alloc | apply Kd.R_drewN | apply Kd.R_drew)); exact HO251.out⟩, ⟨by repeat (first | (with_reducible first | exact HB.out | apply below_alloc | apply pw_below_drewN | apply below_drew1) | exact HB.out)⟩⟩
 case round =>
  clear H'
  try clear c1
  try clear p2
  obtain ⟨x5_1, x6_1, rfl, HA, HK1, HO_5, HB⟩ := hrel
  cases gk with
  | zero => exact absurd HA.out (by simp [spec_WorldsIn.l0])
  | succ k1 =>
   have H := HA.out
   clear HA
   simp only [spec_WorldsIn.l0] at H
   have HC5 := Aside0.mk H
   clear H
   go_upto_region 3 with (fail)
   go_cut [16] (fun v16 wc => ∃ (kq : Nat) (x16_4 : Bool), v16 = .bool x16_4 ∧ Aside0 (spec_WorldsIn.j1 kq a0 a1 x5_1 x6_1 x16_4 = some r) ∧ Aside0 (kq ≤ k1) ∧ Aside0 (Kd.R (Kd.int .i64) 3 wc w.heap.size (fun _ => True) u5 x5_1) ∧ Aside0 (Below w.heap.size w wc))
   case first =>
    have H := HC5.out
    clear HC5
    replace H := Option.bind_eq_some_iff.mp H
    obtain ⟨t252, A60, H⟩ := H
    replace H : (if t252 = true then (if 0 ≤ a0 then (spec_WorldsIn.j1 k1 a0 a1 x5_1 x6_1 (decide (x6_1 < (shl .i64 1 a0)))) else (none)) else (spec_WorldsIn.j1 k1 a0 a1 x5_1 x6_1 false)) = some r := H
    have A6 := Aside0.mk A60
    clear A60
    by_cases c7 : t252 = true
    ·subst c7
     have H1 : (if 0 ≤ a0 then (spec_WorldsIn.j1 k1 a0 a1 x5_1 x6_1 (decide (x6_1 < (shl .i64 1 a0)))) else (none)) = some r := by rw [if_pos rfl] at H; exact H
     clear H
     have H := H1
     clear H1
     by_cases c8 : 0 ≤ a0
     ·rw [if_pos c8] at H
      have c8b0 := eq_true c8
      have c8b1 : decide (0 ≤ a0) = true := decide_eq_true c8
      clear c8
      obtain ⟨ji9, hji9⟩ : ∃ j_ : Int, (shl .i64 1 a0) = j_ := ⟨_, rfl⟩
      replace H : (spec_WorldsIn.j1 k1 a0 a1 x5_1 x6_1 (decide (x6_1 < (ji9)))) = some r := by first | (rw [hji9] at H; exact H) | (simp only [hji9] at H ⊢; exact H)
      (try rw [hji9] at A6)
      have hji9_ : (IntKind.i64.wrap (1 * 2 ^ min a0.toNat 64)) = ji9 := hji9
      have hji9z : a0 ≤ 64 → (IntKind.i64.wrap (1 * 2 ^ a0.toNat)) = ji9 := shl_small hji9
      have hji9u : (IntKind.i64.wrap (2 ^ min a0.toNat 64)) = ji9 := by have h_ := hji9_; rw [Int.one_mul] at h_; exact h_
      have hji9v : a0 ≤ 64 → (IntKind.i64.wrap (2 ^ a0.toNat)) = ji9 := fun hle_ => by have h_ := hji9z hle_; rw [Int.one_mul] at h_; exact h_
      have hji9y : (wrap64 (1 * 2 ^ min a0.toNat 64)) = ji9 := (i64_w _).symm.trans hji9_
      have hji9x : a0 ≤ 64 → (wrap64 (1 * 2 ^ a0.toNat)) = ji9 := fun h_ => (i64_w _).symm.trans (hji9z h_)
      have H' := Aside0.mk H
      clear H
      go_wp2_with (first | ((with_reducible refine gate_callee (f := 123) rfl ?_); refine goesL_ (some 10) rfl rfl Try.func123 (by kernel_rfl) rfl #[.int .i64 a0, .int .i64 a1] rfl (by (try simp only [List.map_toArray, List.map_cons, List.map_nil]); first | done | rfl | (simp only [List.length_drop, List.length_take]; rfl)) ?_; (with_reducible refine (spec_TableOk.calls a0 a1 true _ A6.out).mono ?_); rintro e w' ⟨rfl, ⟨nd, rfl⟩⟩; refine ⟨_, rfl, ?_⟩))
      go_meet
      case rel => exact ⟨_, (decide (x6_1 < (ji9))), (by first | rfl | (simp; done) | (simp only [← hji9] <;> (first | rfl | simp)) | (simp [*]; done)), H', ⟨by have := HK1.out; first | omega | exact Nat.le_refl _⟩, ⟨by (with_reducible repeat (first | apply Kd.R_alloc | apply Kd.R_drewN | apply Kd.R_drew)); exact HO_5.out⟩, ⟨by repeat (first | (with_reducible first | exact HB.out | apply below_alloc | apply pw_below_drewN | apply below_drew1) | exact HB.out)⟩⟩
     ·rw [if_neg c8] at H
      exact absurd H (by simp)
    ·replace c7 := Bool.eq_false_iff.mpr c7
     subst c7
     have H1 : (spec_WorldsIn.j1 k1 a0 a1 x5_1 x6_1 false) = some r := by rw [if_neg (show ¬ (false = true) by decide)] at H; exact H
     clear H
     have H := H1
     clear H1
     have H' := Aside0.mk H
     clear H
     go_wp2_with (first | ((with_reducible refine gate_callee (f := 123) rfl ?_); refine goesL_ (some 10) rfl rfl Try.func123 (by kernel_rfl) rfl #[.int .i64 a0, .int .i64 a1] rfl (by (try simp only [List.map_toArray, List.map_cons, List.map_nil]); first | done | rfl | (simp only [List.length_drop, List.length_take]; rfl)) ?_; (with_reducible refine (spec_TableOk.calls a0 a1 false _ A6.out).mono ?_); rintro e w' ⟨rfl, ⟨nd, rfl⟩⟩; refine ⟨_, rfl, ?_⟩))
     go_meet
     case rel => exact ⟨_, (false), (by first | rfl | (simp; done) | (simp [*]; done)), H', ⟨by have := HK1.out; first | omega | exact Nat.le_refl _⟩, ⟨by (with_reducible repeat (first | apply Kd.R_alloc | apply Kd.R_drewN | apply Kd.R_drew)); exact HO_5.out⟩, ⟨by repeat (first | (with_reducible first | exact HB.out | apply below_alloc | apply pw_below_drewN | apply below_drew1) | exact HB.out)⟩⟩
   case rest =>
    clear HC5
    try clear c1
    try clear p2
    try clear p6
    try clear c7
    try clear c8
    try clear c8b0
    try clear c8b1
    try clear p2
    obtain ⟨kq, x16_4, rfl, HA, HJ4, HO_5, HB⟩ := hcut
    cases kq with
    | zero => exact absurd HA.out (by simp [spec_WorldsIn.j1])
    | succ kj4 =>
     have H := HA.out
     clear HA
     simp only [spec_WorldsIn.j1] at H
     by_cases c10 : x16_4 = true
     ·subst c10
      have H1 : (if 0 ≤ x6_1 then (if (Int.tmod (shr .i64 a1 x6_1) 2) = 1 then (if x5_1.length < 17592186044416 then (spec_WorldsIn.l0 kj4 a0 a1 (x5_1 ++ [x6_1]) (wrap64 (x6_1 + 1))) else (none)) else (spec_WorldsIn.l0 kj4 a0 a1 x5_1 (wrap64 (x6_1 + 1)))) else (none)) = some r := by rw [if_pos rfl] at H; exact H
      clear H
      have H := H1
      clear H1
      by_cases c11 : 0 ≤ x6_1
      ·rw [if_pos c11] at H
       have c11b0 := eq_true c11
       have c11b1 : decide (0 ≤ x6_1) = true := decide_eq_true c11
       clear c11
       obtain ⟨ji12, hji12⟩ : ∃ j_ : Int, (shr .i64 a1 x6_1) = j_ := ⟨_, rfl⟩
       replace H : (if (Int.tmod (ji12) 2) = 1 then (if x5_1.length < 17592186044416 then (spec_WorldsIn.l0 kj4 a0 a1 (x5_1 ++ [x6_1]) (wrap64 (x6_1 + 1))) else (none)) else (spec_WorldsIn.l0 kj4 a0 a1 x5_1 (wrap64 (x6_1 + 1)))) = some r := by first | (rw [hji12] at H; exact H) | (simp only [hji12] at H ⊢; exact H)
       have hji12_ : (a1 / 2 ^ min x6_1.toNat 64) = ji12 := hji12
       have hji12z : x6_1 ≤ 64 → (a1 / 2 ^ x6_1.toNat) = ji12 := shr_small hji12
       by_cases c13 : (Int.tmod (ji12) 2) = 1
       ·rw [if_pos c13] at H
        have c13b0 : ((Int.tmod (ji12) 2) == 1) = true := beq_iff_eq.mpr c13
        have c13b1 : ((Int.tmod (ji12) 2) != 1) = false := bne_eq_false_iff_eq.mpr c13
        clear c13
        by_cases c14 : x5_1.length < 17592186044416
        ·rw [if_pos c14] at H
         have LMc14 := Aside0.mk c14
         clear c14
         obtain ⟨y253, hy253⟩ : ∃ y_ : List Int, y_ = (x5_1 ++ [x6_1]) := ⟨_, rfl⟩
         replace H : (spec_WorldsIn.l0 kj4 a0 a1 y253 (wrap64 (x6_1 + 1))) = some r := by first | (rw [hy253]; with_reducible exact H) | (have H2_ := (Option.bind_some _ _).symm.trans H; rw [hy253]; with_reducible exact H2_) | (have H2_ := (Option.bind_some _ _).symm.trans H; with_reducible exact H2_) | with_reducible exact H | (rw [hy253]; exact H) | exact H
         have Ny253 := Aside0.mk hy253
         clear hy253
         have H' := Aside0.mk H
         clear H
         go_wp2_with (first | ((with_reducible refine gate_builtin (b := .append) (xs := #[.tmp 24, .tmp 26]) rfl ?_); at_builtin; refine Kd.R_append (Kd.int .i64) (w0 := w) w.heap.size rfl (.tmp 24) (.tmp 26) 28 3 (.int .i64 0) 8 rfl Try.underlying28 info3 rfl (by decide) (by omega) u5 x5_1 x6_1 [.int .i64 x6_1] (fun _ => True) (fun _ => False) rfl rfl ?aP (fun _ hk => hk.elim) ?aF ?aO ?aB ?aS ?aL ?_; (case aP => exact rfl); (case aB => exact (by repeat (first | (with_reducible first | exact HB.out | apply below_alloc | apply pw_below_drewN | apply below_drew1) | exact HB.out))); (case aF => exact (fun _ _ => trivial)); (case aO => exact (by (with_reducible repeat (first | apply Kd.R_alloc | apply Kd.R_drewN | apply Kd.R_drew)); exact HO_5.out)); (case aS => exact (below_size (by repeat (first | (with_reducible first | exact HB.out | apply below_alloc | apply pw_below_drewN | apply below_drew1) | exact HB.out)))); (case aL => have := LMc14.out; omega); intro v254 w15 ho hb hg hat; rw [← Ny253.out] at ho; have n0_ := Aside0.mk (hb); have n1_ := Aside0.mk (ho); clear HB; clear HO_5; have HB := n0_; have HO255 := n1_; clear n0_ n1_; clear ho hb hg hat))
         go_roundg kj4
         case measure => have := HK1.out; have := HJ4.out; omega
         case rel => exact ⟨(y253), (wrap64 (x6_1 + 1)), (by first | rfl | (simp; done) | (simp [*]; done)), H', ⟨by have := HK1.out; have := HJ4.out; omega⟩, ⟨by (with_reducible repeat (first | apply Kd.R_alloc | apply Kd.R_drewN | apply Kd.R_drew)); exact HO255.out⟩, ⟨by repeat (first | (with_reducible first | exact HB.out | apply below_alloc | apply pw_below_drewN | apply below_drew1) | exact HB.out)⟩⟩
        ·rw [if_neg c14] at H
         exact absurd H (by simp)
       ·rw [if_neg c13] at H
        have c13b0 : ((Int.tmod (ji12) 2) == 1) = false := beq_eq_false_iff_ne.mpr c13
        have c13b1 : ((Int.tmod (ji12) 2) != 1) = true := bne_iff_ne.mpr c13
        have H' := Aside0.mk H
        clear H
        go_wp2
        go_roundg kj4
        case measure => have := HK1.out; have := HJ4.out; omega
        case rel => exact ⟨(x5_1), (wrap64 (x6_1 + 1)), (by first | rfl | (simp; done) | (simp [*]; done)), H', ⟨by have := HK1.out; have := HJ4.out; omega⟩, ⟨by (with_reducible repeat (first | apply Kd.R_alloc | apply Kd.R_drewN | apply Kd.R_drew)); exact HO_5.out⟩, ⟨by repeat (first | (with_reducible first | exact HB.out | apply below_alloc | apply pw_below_drewN | apply below_drew1) | exact HB.out)⟩⟩
      ·rw [if_neg c11] at H
       exact absurd H (by simp)
     ·replace c10 := Bool.eq_false_iff.mpr c10
      subst c10
      have H1 : (some x5_1) = some r := by rw [if_neg (show ¬ (false = true) by decide)] at H; exact H
      clear H
      have H := H1
      clear H1
      obtain rfl := Option.some.inj H
      go_wp2
      go_ret
      exact ⟨_, by first | rfl | (simp [errW_none, errW_some] <;> rfl) | (simp [*, errW_none, errW_some] <;> rfl), by (with_reducible repeat (first | apply Kd.R_alloc | apply Kd.R_drewN | apply Kd.R_drew)); exact HO_5.out, by repeat (first | (with_reducible first | exact HB.out | apply below_alloc | apply pw_below_drewN | apply below_drew1) | exact HB.out)⟩

/-! ### spec_StoryTable: function 118 -/
def spec_StoryTable.f (k : Nat) (a0 : Int) (l1 : List (S83)) : Option (Int) := (spec_StoryOk.f k a0 l1).bind fun t256 => (if t256 = true then ((spec_l4Story.f k a0 l1).bind fun t257 => (some t257)) else (some (-1)))
theorem spec_StoryTable.mono : ∀ a0 a1 k, LeO (spec_StoryTable.f k a0 a1) (spec_StoryTable.f (k + 1) a0 a1) := by
 intro a0 a1 k
 unfold spec_StoryTable.f
 repeat' first
   | (with_reducible exact spec_StoryOk.mono _ _ _)
   | (with_reducible exact spec_l4Story.mono _ _ _)
   | (with_reducible exact LeO.refl _)
   | (with_reducible exact LeO.none _)
   | (with_reducible refine LeO.ite ?_ ?_)
   | (with_reducible refine LeO.bind ?_ (fun _ => ?_))
   | exact spec_StoryOk.mono _ _ _
   | exact spec_l4Story.mono _ _ _
   | exact LeO.none _
   | refine LeO.ite ?_ ?_
   | refine LeO.bind ?_ (fun _ => ?_)
set_option maxHeartbeats 8000000 in
set_option maxRecDepth 100000 in
theorem spec_StoryTable.calls (k : Nat) (a0 : Int) (A1 : Option Addr) (c1 : Nat) (l1 : List (S83)) (r : Int) (w : World) (hr1 : Kd.C k83 w A1 l1.length l1) (hc1 : l1.length ≤ c1) (h : spec_StoryTable.f k a0 l1 = some r) :
  Calls Try.prog 118 #[.int .i64 a0, .slice A1 l1.length c1] w fun e w' => e = .returned (.int .i64 r) ∧ Below w.heap.size w w' := by
 have HR1 := Aside0.mk hr1
 have HC1 := Aside0.mk hc1
 clear hr1 hc1
 have HB := Aside0.mk (Below.refl w.heap.size w)
 have H : ((spec_StoryOk.f k a0 l1).bind fun t256 => (if t256 = true then ((spec_l4Story.f k a0 l1).bind fun t257 => (some t257)) else (some (-1)))) = some r := h
 clear h
 replace H := Option.bind_eq_some_iff.mp H
 obtain ⟨t256, A30, H⟩ := H
 replace H : (if t256 = true then ((spec_l4Story.f k a0 l1).bind fun t257 => (some t257)) else (some (-1))) = some r := H
 have A3 := Aside0.mk A30
 clear A30
 by_cases c4 : t256 = true
 ·subst c4
  have H1 : ((spec_l4Story.f k a0 l1).bind fun t257 => (some t257)) = some r := by rw [if_pos rfl] at H; exact H
  clear H
  have H := H1
  clear H1
  replace H := Option.bind_eq_some_iff.mp H
  obtain ⟨t257, A50, H⟩ := H
  replace H : (some t257) = some r := H
  have A5 := Aside0.mk A50
  clear A50
  obtain rfl := Option.some.inj H
  go_enter Try.func118, Try.ntmps118
  go_wp2_with (first | ((with_reducible refine gate_callee (f := 50) rfl ?_); refine goesL_ (some 7) rfl rfl Try.func50 (by kernel_rfl) rfl #[.int .i64 a0, .slice A1 l1.length c1] rfl (by (try simp only [List.map_toArray, List.map_cons, List.map_nil]); first | done | rfl | (simp only [List.length_drop, List.length_take]; rfl)) ?_; (with_reducible refine (spec_StoryOk.calls k a0 _ _ l1 true _ ?side1 ?side2 A3.out).mono ?_); (case side1 => repeat (first | exact HR1.out | (with_reducible refine Kd.C_alloc ?_ _) | (with_reducible refine Kd.C_drewN ?_ _) | (with_reducible refine Kd.C_drew ?_))); (case side2 => exact HC1.out); rintro e w6 ⟨rfl, hb⟩; refine ⟨_, rfl, ?_⟩; have n0_ := Aside0.mk (below_step (by repeat (first | (with_reducible first | exact HB.out | apply below_alloc | apply pw_below_drewN | apply below_drew1) | exact HB.out)) hb); clear HB; have HB := n0_; clear n0_; (try clear hb); (try clear hb2); (try clear hk); (try clear hi)) | ((with_reducible refine gate_callee (f := 84) rfl ?_); refine goesL_ (some 11) rfl rfl Try.func84 (by kernel_rfl) rfl #[.int .i64 a0, .slice A1 l1.length c1] rfl (by (try simp only [List.map_toArray, List.map_cons, List.map_nil]); first | done | rfl | (simp only [List.length_drop, List.length_take]; rfl)) ?_; (with_reducible refine (spec_l4Story.calls k a0 _ _ l1 t257 _ ?side1 ?side2 A5.out).mono ?_); (case side1 => repeat (first | exact (Kd.C_below HR1.out HB.out) | (with_reducible refine Kd.C_alloc ?_ _) | (with_reducible refine Kd.C_drewN ?_ _) | (with_reducible refine Kd.C_drew ?_))); (case side2 => exact HC1.out); rintro e w7 ⟨rfl, hb⟩; refine ⟨_, rfl, ?_⟩; have n0_ := Aside0.mk (below_step (by repeat (first | (with_reducible first | exact HB.out | apply below_alloc | apply pw_below_drewN | apply below_drew1) | exact HB.out)) hb); clear HB; have HB := n0_; clear n0_; (try clear hb); (try clear hb2); (try clear hk); (try clear hi)))
  go_ret
  exact ⟨by first | rfl | (simp [errW_none, errW_some] <;> rfl) | (simp [*, errW_none, errW_some] <;> rfl), by repeat (first | (with_reducible first | exact HB.out | apply below_alloc | apply pw_below_drewN | apply below_drew1) | exact HB.out)⟩
 ·replace c4 := Bool.eq_false_iff.mpr c4
  subst c4
  have H1 : (some (-1)) = some r := by rw [if_neg (show ¬ (false = true) by decide)] at H; exact H
  clear H
  have H := H1
  clear H1
  obtain rfl := Option.some.inj H
  go_enter Try.func118, Try.ntmps118
  go_wp2_with (first | ((with_reducible refine gate_callee (f := 50) rfl ?_); refine goesL_ (some 7) rfl rfl Try.func50 (by kernel_rfl) rfl #[.int .i64 a0, .slice A1 l1.length c1] rfl (by (try simp only [List.map_toArray, List.map_cons, List.map_nil]); first | done | rfl | (simp only [List.length_drop, List.length_take]; rfl)) ?_; (with_reducible refine (spec_StoryOk.calls k a0 _ _ l1 false _ ?side1 ?side2 A3.out).mono ?_); (case side1 => repeat (first | exact HR1.out | (with_reducible refine Kd.C_alloc ?_ _) | (with_reducible refine Kd.C_drewN ?_ _) | (with_reducible refine Kd.C_drew ?_))); (case side2 => exact HC1.out); rintro e w8 ⟨rfl, hb⟩; refine ⟨_, rfl, ?_⟩; have n0_ := Aside0.mk (below_step (by repeat (first | (with_reducible first | exact HB.out | apply below_alloc | apply pw_below_drewN | apply below_drew1) | exact HB.out)) hb); clear HB; have HB := n0_; clear n0_; (try clear hb); (try clear hb2); (try clear hk); (try clear hi)))
  go_ret
  exact ⟨by first | rfl | (simp [errW_none, errW_some] <;> rfl) | (simp [*, errW_none, errW_some] <;> rfl), by repeat (first | (with_reducible first | exact HB.out | apply below_alloc | apply pw_below_drewN | apply below_drew1) | exact HB.out)⟩

/-! ### spec_l20Proved: function 97 -/
def spec_l20Proved.j0 : Nat → Int → List (S83) → List (S81) → List Int → Bool → List Int → Int → Option (Int × (List (S83)) × (List (S81)) × Int)
 | 0, _, _, _, _, _, _, _ => none
 | k + 1, x5, x6, x7, x8, x30, x1000, x1001 => if x30 = true then ((spec_l20Rd_pick.f k x1000 x1001 x5).bind fun bt273 => ((some (([(⟨0, bt273.1⟩ : S81)] : List (S81)) : List (S81))).bind fun y275 => (if 0 < (x8.length : Int) then (if 0 ≤ bt273.1 then (if (Int.tmod (shr .i64 (rd x8 0) bt273.1) 2) = 0 then (if y275.length < 8796093022208 then (some (x5, x6, (y275 ++ [(⟨2, 0⟩ : S81)]), bt273.2)) else (none)) else (some (x5, x6, y275, bt273.2))) else (none)) else (none)))) else (some (x5, x6, x7, x1001))
def spec_l20Proved.f (k : Nat) (s0_0 : List Int) (s0_1 : Int) : Option (Int × (List (S83)) × (List (S81)) × Int) := (spec_l20Story.f k s0_0 s0_1 14).bind fun bt258 => ((spec_l20Term.f k s0_0 bt258.2.2 bt258.1 14).bind fun bt263 => ((spec_StoryTable.f k bt258.1 bt258.2.1).bind fun t267 => ((spec_WorldsIn.f k bt258.1 t267).bind fun t268 => (if (t268.length : Int) > 0 then ((spec_l20Rd_pick.f k s0_0 bt263.2 2).bind fun bt271 => (spec_l20Proved.j0 k bt258.1 bt258.2.1 bt263.1 t268 (bt271.1 == 0) s0_0 bt271.2)) else (spec_l20Proved.j0 k bt258.1 bt258.2.1 bt263.1 t268 false s0_0 bt263.2)))))
theorem spec_l20Proved.mono_l : ∀ k, (∀ y0 y1 y2 y3 y4 y5 y6, LeO (spec_l20Proved.j0 k y0 y1 y2 y3 y4 y5 y6) (spec_l20Proved.j0 (k + 1) y0 y1 y2 y3 y4 y5 y6))
 | 0 => fun _ _ _ _ _ _ _ r h => by simp [spec_l20Proved.j0] at h
 | k + 1 => by
  have ih0 := spec_l20Proved.mono_l k
  ·intro y0 y1 y2 y3 y4 y5 y6
   unfold spec_l20Proved.j0
   repeat' first
   | (with_reducible exact ih0 _ _ _ _ _ _ _)
   | (with_reducible exact spec_StoryTable.mono _ _ _)
   | (with_reducible exact spec_WorldsIn.mono _ _ _)
   | (with_reducible exact spec_l20Rd_pick.mono _ _ _ _)
   | (with_reducible exact spec_l20Story.mono _ _ _ _)
   | (with_reducible exact spec_l20Term.mono _ _ _ _ _)
   | (with_reducible exact LeO.refl _)
   | (with_reducible exact LeO.none _)
   | (with_reducible refine LeO.ite ?_ ?_)
   | (with_reducible refine LeO.bind ?_ (fun _ => ?_))
   | exact ih0 _ _ _ _ _ _ _
   | exact spec_StoryTable.mono _ _ _
   | exact spec_WorldsIn.mono _ _ _
   | exact spec_l20Rd_pick.mono _ _ _ _
   | exact spec_l20Story.mono _ _ _ _
   | exact spec_l20Term.mono _ _ _ _ _
   | exact LeO.none _
   | refine LeO.ite ?_ ?_
   | refine LeO.bind ?_ (fun _ => ?_)
theorem spec_l20Proved.mono : ∀ a0 a1 k, LeO (spec_l20Proved.f k a0 a1) (spec_l20Proved.f (k + 1) a0 a1) := by
 intro a0 a1 k
 have ih0 := spec_l20Proved.mono_l k
 unfold spec_l20Proved.f
 repeat' first
   | (with_reducible exact ih0 _ _ _ _ _ _ _)
   | (with_reducible exact spec_StoryTable.mono _ _ _)
   | (with_reducible exact spec_WorldsIn.mono _ _ _)
   | (with_reducible exact spec_l20Rd_pick.mono _ _ _ _)
   | (with_reducible exact spec_l20Story.mono _ _ _ _)
   | (with_reducible exact spec_l20Term.mono _ _ _ _ _)
   | (with_reducible exact LeO.refl _)
   | (with_reducible exact LeO.none _)
   | (with_reducible refine LeO.ite ?_ ?_)
   | (with_reducible refine LeO.bind ?_ (fun _ => ?_))
   | exact ih0 _ _ _ _ _ _ _
   | exact spec_StoryTable.mono _ _ _
   | exact spec_WorldsIn.mono _ _ _
   | exact spec_l20Rd_pick.mono _ _ _ _
   | exact spec_l20Story.mono _ _ _ _
   | exact spec_l20Term.mono _ _ _ _ _
   | exact LeO.none _
   | refine LeO.ite ?_ ?_
   | refine LeO.bind ?_ (fun _ => ?_)
set_option maxHeartbeats 8000000 in
set_option maxRecDepth 100000 in
theorem spec_l20Proved.calls (k : Nat) (g : Nat) (s0_0 : List Int) (s0_1 : Int) (r1 : Int) (r2 : List (S83)) (r3 : List (S81)) (r4 : Int) (w0 w : World) (hI : IsS124 w0 w g s0_0 s0_1) (hB : Below w0.heap.size w0 w) (h : spec_l20Proved.f k s0_0 s0_1 = some (r1, r2, r3, r4)) :
  Calls Try.prog 97 #[.pointer (some ⟨g, 0, none⟩)] w fun e w' => ∃ v1_ v2_ : Value, e = .returned (.tuple #[.int .i64 r1, v1_, v2_]) ∧ Kd.S k83 83 w' w.heap.size (fun k_ => some k_ ≠ (v2_ : Value).ownBlock) v1_ r2 ∧ Kd.R k81 81 w' w.heap.size (fun _ => True) v2_ r3 ∧ IsS124 w0 w' g s0_0 r4 ∧ Below w0.heap.size w0 w' ∧ KeepBut w w' g none := by
 have hu81 := Try.underlying81
 have HI0 := Aside0.mk hI
 have HK := Aside0.mk (KeepBut.refl w g none)
 have HL := Aside0.mk hB.size
 clear hI
 have HW0 := Aside0.mk hB.size
 have HB := Aside0.mk hB
 clear hB
 have H : ((spec_l20Story.f k s0_0 s0_1 14).bind fun bt258 => ((spec_l20Term.f k s0_0 bt258.2.2 bt258.1 14).bind fun bt263 => ((spec_StoryTable.f k bt258.1 bt258.2.1).bind fun t267 => ((spec_WorldsIn.f k bt258.1 t267).bind fun t268 => (if (t268.length : Int) > 0 then ((spec_l20Rd_pick.f k s0_0 bt263.2 2).bind fun bt271 => (spec_l20Proved.j0 k bt258.1 bt258.2.1 bt263.1 t268 (bt271.1 == 0) s0_0 bt271.2)) else (spec_l20Proved.j0 k bt258.1 bt258.2.1 bt263.1 t268 false s0_0 bt263.2)))))) = some (r1, r2, r3, r4) := h
 clear h
 replace H := Option.bind_eq_some_iff.mp H
 obtain ⟨⟨t258, t259, t262⟩, A20, H⟩ := H
 replace H : ((spec_l20Term.f k s0_0 t262 t258 14).bind fun bt263 => ((spec_StoryTable.f k t258 t259).bind fun t267 => ((spec_WorldsIn.f k t258 t267).bind fun t268 => (if (t268.length : Int) > 0 then ((spec_l20Rd_pick.f k s0_0 bt263.2 2).bind fun bt271 => (spec_l20Proved.j0 k t258 t259 bt263.1 t268 (bt271.1 == 0) s0_0 bt271.2)) else (spec_l20Proved.j0 k t258 t259 bt263.1 t268 false s0_0 bt263.2))))) = some (r1, r2, r3, r4) := H
 have A2 := Aside0.mk A20
 clear A20
 replace H := Option.bind_eq_some_iff.mp H
 obtain ⟨⟨t263, t266⟩, A30, H⟩ := H
 replace H : ((spec_StoryTable.f k t258 t259).bind fun t267 => ((spec_WorldsIn.f k t258 t267).bind fun t268 => (if (t268.length : Int) > 0 then ((spec_l20Rd_pick.f k s0_0 t266 2).bind fun bt271 => (spec_l20Proved.j0 k t258 t259 t263 t268 (bt271.1 == 0) s0_0 bt271.2)) else (spec_l20Proved.j0 k t258 t259 t263 t268 false s0_0 t266)))) = some (r1, r2, r3, r4) := H
 have A3 := Aside0.mk A30
 clear A30
 replace H := Option.bind_eq_some_iff.mp H
 obtain ⟨t267, A40, H⟩ := H
 replace H : ((spec_WorldsIn.f k t258 t267).bind fun t268 => (if (t268.length : Int) > 0 then ((spec_l20Rd_pick.f k s0_0 t266 2).bind fun bt271 => (spec_l20Proved.j0 k t258 t259 t263 t268 (bt271.1 == 0) s0_0 bt271.2)) else (spec_l20Proved.j0 k t258 t259 t263 t268 false s0_0 t266))) = some (r1, r2, r3, r4) := H
 have A4 := Aside0.mk A40
 clear A40
 replace H := Option.bind_eq_some_iff.mp H
 obtain ⟨t268, A50, H⟩ := H
 replace H : (if (t268.length : Int) > 0 then ((spec_l20Rd_pick.f k s0_0 t266 2).bind fun bt271 => (spec_l20Proved.j0 k t258 t259 t263 t268 (bt271.1 == 0) s0_0 bt271.2)) else (spec_l20Proved.j0 k t258 t259 t263 t268 false s0_0 t266)) = some (r1, r2, r3, r4) := H
 have A5 := Aside0.mk A50
 clear A50
 have HC6 := Aside0.mk H
 clear H
 go_enter Try.func97, Try.ntmps97
 go_upto_region 4 with (first | ((with_reducible refine gate_callee (f := 92) rfl ?_); refine goesL_ (some 12) rfl rfl Try.func92 (by kernel_rfl) rfl #[.pointer (some ⟨g, 0, none⟩), .int .i64 14] rfl (by (try simp only [List.map_toArray, List.map_cons, List.map_nil]); first | done | rfl | (simp only [List.length_drop, List.length_take]; rfl)) ?_; (with_reducible refine (spec_l20Story.calls k g s0_0 s0_1 14 t258 t259 t262 w0 _ ?side1 ?side2 A2.out).mono ?_); (case side1 => exact IsS124.below HI0.out lt_); (case side2 => exact below_at HB.out); rintro e w7 ⟨v260, rfl, ho0, hi, hb, hk⟩; refine ⟨_, rfl, ?_⟩; have n0_ := Aside0.mk (Kd.S_lower ho0 (keep_size (w := w) (g := g) (row := none) (keep_at HK.out))); have n1_ := Aside0.mk (KeepBut.trans (keep_at HK.out) hk (.inl rfl)); have n2_ := Aside0.mk (hb); have n3_ := Aside0.mk (hi); clear HK; clear HB; clear HI0; have HO261 := n0_; have HK := n1_; have HB := n2_; have HI0 := n3_; clear n0_ n1_ n2_ n3_; (try clear hb); (try clear hb2); (try clear hk); (try clear hi); (try clear ho0)) | ((with_reducible refine gate_callee (f := 108) rfl ?_); refine goesL_ (some 17) rfl rfl Try.func108 (by kernel_rfl) rfl #[.pointer (some ⟨g, 0, none⟩), .int .i64 t258, .int .i64 14] rfl (by (try simp only [List.map_toArray, List.map_cons, List.map_nil]); first | done | rfl | (simp only [List.length_drop, List.length_take]; rfl)) ?_; (with_reducible refine (spec_l20Term.calls k g s0_0 t262 t258 14 t263 t266 w0 _ ?side1 ?side2 A3.out).mono ?_); (case side1 => exact IsS124.below HI0.out lt_); (case side2 => exact below_at HB.out); rintro e w8 ⟨v264, rfl, ho0, hi, hb, hk⟩; refine ⟨_, rfl, ?_⟩; have n0_ := Aside0.mk (Kd.S_mono (Kd.S_told (Kd.S_oldK (IsS124.apartS (show IsS124 w0 _ g s0_0 t262 from IsS124.below HI0.out lt_) (Kd.S_below HO261.out lt_) (by decide)) hk) (Kd.R_base ho0)) (fun _ h_ => h_.1)); have n1_ := Aside0.mk (Kd.R_lower ho0 (keep_size (w := w) (g := g) (row := none) (keep_at HK.out))); have n2_ := Aside0.mk (KeepBut.trans (keep_at HK.out) hk (.inl rfl)); have n3_ := Aside0.mk (hb); have n4_ := Aside0.mk (hi); clear HO261; clear HK; clear HB; clear HI0; have HO261 := n0_; have HO265 := n1_; have HK := n2_; have HB := n3_; have HI0 := n4_; clear n0_ n1_ n2_ n3_ n4_; (try clear hb); (try clear hb2); (try clear hk); (try clear hi); (try clear ho0); obtain ⟨Ao9, co9, eo9⟩ := Kd.S_slice HO261.out; subst eo9) | ((with_reducible refine gate_callee (f := 118) rfl ?_); refine goesL_ (some 21) rfl rfl Try.func118 (by kernel_rfl) rfl #[.int .i64 t258, .slice Ao9 t259.length co9] rfl (by (try simp only [List.map_toArray, List.map_cons, List.map_nil]); first | done | rfl | (simp only [List.length_drop, List.length_take]; rfl)) ?_; (with_reducible refine (spec_StoryTable.calls k t258 _ _ t259 t267 _ ?side1 ?side2 A4.out).mono ?_); (case side1 => repeat (first | exact (Kd.S_reads' HO261.out).2.2 | (with_reducible refine Kd.C_alloc ?_ _) | (with_reducible refine Kd.C_drewN ?_ _) | (with_reducible refine Kd.C_drew ?_))); (case side2 => exact (Kd.S_reads' HO261.out).2.1); rintro e w10 ⟨rfl, hb⟩; refine ⟨_, rfl, ?_⟩; have n0_ := Aside0.mk (Kd.S_below (Kd.S_below HO261.out lt_) hb); have n1_ := Aside0.mk (Kd.R_below (Kd.R_below HO265.out lt_) hb); have n2_ := Aside0.mk (IsS124.below (IsS124.below HI0.out lt_) hb); have n3_ := Aside0.mk (KeepBut.trans (keep_at HK.out) (KeepBut.of_below hb g none) (.inl rfl)); have n4_ := Aside0.mk (below_step (below_at HB.out) hb); clear HO261; clear HO265; clear HI0; clear HK; clear HB; have HO261 := n0_; have HO265 := n1_; have HI0 := n2_; have HK := n3_; have HB := n4_; clear n0_ n1_ n2_ n3_ n4_; (try clear hb); (try clear hb2); (try clear hk); (try clear hi)) | ((with_reducible refine gate_callee (f := 117) rfl ?_); refine goesL_ (some 22) rfl rfl Try.func117 (by kernel_rfl) rfl #[.int .i64 t258, .int .i64 t267] rfl (by (try simp only [List.map_toArray, List.map_cons, List.map_nil]); first | done | rfl | (simp only [List.length_drop, List.length_take]; rfl)) ?_; (with_reducible refine (spec_WorldsIn.calls k t258 t267 t268 _ A5.out).mono ?_); rintro e w11 ⟨v269, rfl, ho0, hb⟩; refine ⟨_, rfl, ?_⟩; have n0_ := Aside0.mk (Kd.S_below (Kd.S_below HO261.out lt_) hb); have n1_ := Aside0.mk (Kd.R_below (Kd.R_below HO265.out lt_) hb); have n2_ := Aside0.mk (Kd.R_lower ho0 (keep_size (w := w) (g := g) (row := none) (keep_at HK.out))); have n3_ := Aside0.mk (IsS124.below (IsS124.below HI0.out lt_) hb); have n4_ := Aside0.mk (KeepBut.trans (keep_at HK.out) (KeepBut.of_below hb g none) (.inl rfl)); have n5_ := Aside0.mk (below_step (below_at HB.out) hb); clear HO261; clear HO265; clear HI0; clear HK; clear HB; have HO261 := n0_; have HO265 := n1_; have HO270 := n2_; have HI0 := n3_; have HK := n4_; have HB := n5_; clear n0_ n1_ n2_ n3_ n4_ n5_; (try clear hb); (try clear hb2); (try clear hk); (try clear hi); (try clear ho0)))
 (try simp only [Act.put, List.setIfInBounds_toArray, List.set_cons_zero, List.set_cons_succ])
 go_cut [30] (fun v30 wc => ∃ (kq : Nat) (x30_5 : Bool) (x1001_5 : Int), v30 = .bool x30_5 ∧ Aside0 (spec_l20Proved.j0 kq t258 t259 t263 t268 x30_5 s0_0 x1001_5 = some (r1, r2, r3, r4)) ∧ Aside0 (kq ≤ k) ∧ Aside0 (Kd.S k83 83 wc w.heap.size (fun k_ => some k_ ≠ (v264 : Value).ownBlock) (.slice Ao9 t259.length co9) t259) ∧ Aside0 (Kd.R k81 81 wc w.heap.size (fun _ => True) v264 t263) ∧ Aside0 (Kd.R (Kd.int .i64) 3 wc w.heap.size (fun _ => True) v269 t268) ∧ Aside0 (IsS124 w0 wc g s0_0 x1001_5) ∧ Aside0 (KeepBut w wc g none) ∧ Aside0 (Below w0.heap.size w0 wc))
 case first =>
  have H := HC6.out
  clear HC6
  by_cases c12 : (t268.length : Int) > 0
  ·rw [if_pos c12] at H
   have c12b0 : decide (0 < (t268.length : Int)) = true := decide_eq_true c12
   have c12b1 : decide (0 < t268.length) = true := decide_eq_true (by omega)
   clear c12
   (first | rw [c12b0] | (simp only [i64_w, i32_w]; rw [c12b0]) | skip)
   replace H := Option.bind_eq_some_iff.mp H
   obtain ⟨⟨t271, t272⟩, A130, H⟩ := H
   replace H : (spec_l20Proved.j0 k t258 t259 t263 t268 (t271 == 0) s0_0 t272) = some (r1, r2, r3, r4) := H
   have A13 := Aside0.mk A130
   clear A130
   have H' := Aside0.mk H
   clear H
   obtain ⟨Ao14, co14, eo14⟩ := Kd.R_slice HO270.out
   subst eo14
   go_wp2_with (first | (go_at_call 107; (with_reducible refine (spec_l20Rd_pick.calls k g s0_0 t266 2 t271 t272 w0 _ ?side1 ?side2 A13.out).mono ?_); (case side1 => exact IsS124.below HI0.out lt_); (case side2 => exact below_at HB.out); rintro e w15 ⟨rfl, hi, hb, hk⟩; have n0_ := Aside0.mk (Kd.S_mono (Kd.S_keep (IsS124.apartS (show IsS124 w0 _ g s0_0 t266 from IsS124.below HI0.out lt_) (Kd.S_below HO261.out lt_) (by decide)) hk (fun _ h => h.2)) (fun _ h => h.1)); have n1_ := Aside0.mk (Kd.R_mono (Kd.R_keep (IsS124.apart (show IsS124 w0 _ g s0_0 t266 from IsS124.below HI0.out lt_) (Kd.R_below HO265.out lt_) (by decide)) hk (fun _ h => h.2)) (fun _ h => h.1)); have n2_ := Aside0.mk (Kd.R_mono (Kd.R_keep (IsS124.apart (show IsS124 w0 _ g s0_0 t266 from IsS124.below HI0.out lt_) (Kd.R_below HO270.out lt_) (by decide)) hk (fun _ h => h.2)) (fun _ h => h.1)); have n3_ := Aside0.mk (KeepBut.trans (keep_at HK.out) hk (.inl rfl)); have n4_ := Aside0.mk (hb); have n5_ := Aside0.mk (hi); clear HO261; clear HO265; clear HO270; clear HK; clear HB; clear HI0; have HO261 := n0_; have HO265 := n1_; have HO270 := n2_; have HK := n3_; have HB := n4_; have HI0 := n5_; clear n0_ n1_ n2_ n3_ n4_ n5_; (try clear hb); (try clear hb2); (try clear hk); (try clear hi)))
   go_meet
   case rel => exact ⟨_, ((t271 == 0)), (t272), (by first | rfl | (simp; done) | (simp [*]; done)), H', ⟨by first | omega | exact Nat.le_refl _⟩, ⟨Kd.S_below (Kd.S_mono HO261.out (fun _ hk => hk.2)) lt_⟩, ⟨Kd.R_below HO265.out lt_⟩, ⟨Kd.R_below HO270.out lt_⟩, ⟨IsS124.below HI0.out lt_⟩, ⟨keep_at HK.out⟩, ⟨below_at HB.out⟩⟩
  ·rw [if_neg c12] at H
   have c12b0 : decide (0 < (t268.length : Int)) = false := decide_eq_false c12
   have c12b1 : decide (0 < t268.length) = false := decide_eq_false (by omega)
   clear c12
   (first | rw [c12b0] | (simp only [i64_w, i32_w]; rw [c12b0]) | skip)
   have H' := Aside0.mk H
   clear H
   obtain ⟨Ao16, co16, eo16⟩ := Kd.R_slice HO270.out
   subst eo16
   go_wp2
   go_meet
   case rel => exact ⟨_, (false), (t266), (by first | rfl | (simp; done) | (simp [*]; done)), H', ⟨by first | omega | exact Nat.le_refl _⟩, ⟨Kd.S_below (Kd.S_mono HO261.out (fun _ hk => hk.2)) lt_⟩, ⟨Kd.R_below HO265.out lt_⟩, ⟨Kd.R_below HO270.out lt_⟩, ⟨IsS124.below HI0.out lt_⟩, ⟨keep_at HK.out⟩, ⟨below_at HB.out⟩⟩
 case rest =>
  clear HC6
  try clear c1
  try clear p2
  try clear c9
  try clear c10
  try clear c11
  try clear c12
  try clear c12b0
  try clear c12b1
  obtain ⟨kq, x30_5, x1001_5, rfl, HA, HJ5, HO_6, HO_7, HO_8, HI0, HK, HB⟩ := hcut
  cases kq with
  | zero => exact absurd HA.out (by simp [spec_l20Proved.j0])
  | succ kj5 =>
   have H := HA.out
   clear HA
   simp only [spec_l20Proved.j0] at H
   by_cases c17 : x30_5 = true
   ·subst c17
    have H1 : ((spec_l20Rd_pick.f kj5 s0_0 x1001_5 t258).bind fun bt273 => ((some (([(⟨0, bt273.1⟩ : S81)] : List (S81)) : List (S81))).bind fun y275 => (if 0 < (t268.length : Int) then (if 0 ≤ bt273.1 then (if (Int.tmod (shr .i64 (rd t268 0) bt273.1) 2) = 0 then (if y275.length < 8796093022208 then (some (t258, t259, (y275 ++ [(⟨2, 0⟩ : S81)]), bt273.2)) else (none)) else (some (t258, t259, y275, bt273.2))) else (none)) else (none)))) = some (r1, r2, r3, r4) := by rw [if_pos rfl] at H; exact H
    clear H
    have H := H1
    clear H1
    replace H := Option.bind_eq_some_iff.mp H
    obtain ⟨⟨t273, t274⟩, A180, H⟩ := H
    replace H : ((some (([(⟨0, t273⟩ : S81)] : List (S81)) : List (S81))).bind fun y275 => (if 0 < (t268.length : Int) then (if 0 ≤ t273 then (if (Int.tmod (shr .i64 (rd t268 0) t273) 2) = 0 then (if y275.length < 8796093022208 then (some (t258, t259, (y275 ++ [(⟨2, 0⟩ : S81)]), t274)) else (none)) else (some (t258, t259, y275, t274))) else (none)) else (none))) = some (r1, r2, r3, r4) := H
    have A18 := Aside0.mk A180
    clear A180
    obtain ⟨y275, hy275⟩ : ∃ y_ : List (S81), y_ = (([(⟨0, t273⟩ : S81)] : List (S81))) := ⟨_, rfl⟩
    replace H : (if 0 < (t268.length : Int) then (if 0 ≤ t273 then (if (Int.tmod (shr .i64 (rd t268 0) t273) 2) = 0 then (if y275.length < 8796093022208 then (some (t258, t259, (y275 ++ [(⟨2, 0⟩ : S81)]), t274)) else (none)) else (some (t258, t259, y275, t274))) else (none)) else (none)) = some (r1, r2, r3, r4) := by first | (rw [hy275]; exact H) | exact H
    have Ny275 := Aside0.mk hy275
    clear hy275
    by_cases c19 : 0 < (t268.length : Int)
    ·rw [if_pos c19] at H
     have c19b0 : decide (0 < (t268.length : Int)) = true := decide_eq_true c19
     have c19b1 : decide (0 < t268.length) = true := decide_eq_true (by omega)
     clear c19
     by_cases c20 : 0 ≤ t273
     ·rw [if_pos c20] at H
      have c20b0 := eq_true c20
      have c20b1 : decide (0 ≤ t273) = true := decide_eq_true c20
      clear c20
      obtain ⟨ji21, hji21⟩ : ∃ j_ : Int, (shr .i64 (rd t268 0) t273) = j_ := ⟨_, rfl⟩
      replace H : (if (Int.tmod (ji21) 2) = 0 then (if y275.length < 8796093022208 then (some (t258, t259, (y275 ++ [(⟨2, 0⟩ : S81)]), t274)) else (none)) else (some (t258, t259, y275, t274))) = some (r1, r2, r3, r4) := by first | (rw [hji21] at H; exact H) | (simp only [hji21] at H ⊢; exact H)
      (try rw [hji21] at A18)
      have hji21_ : ((rd t268 0) / 2 ^ min t273.toNat 64) = ji21 := hji21
      have hji21z : t273 ≤ 64 → ((rd t268 0) / 2 ^ t273.toNat) = ji21 := shr_small hji21
      by_cases c22 : (Int.tmod (ji21) 2) = 0
      ·rw [if_pos c22] at H
       have c22b0 : ((Int.tmod (ji21) 2) == 0) = true := beq_iff_eq.mpr c22
       have c22b1 : ((Int.tmod (ji21) 2) != 0) = false := bne_eq_false_iff_eq.mpr c22
       clear c22
       by_cases c23 : y275.length < 8796093022208
       ·rw [if_pos c23] at H
        have LMc23 := Aside0.mk c23
        clear c23
        obtain ⟨y279, hy279⟩ : ∃ y_ : List (S81), y_ = (y275 ++ [(⟨2, 0⟩ : S81)]) := ⟨_, rfl⟩
        replace H : (some (t258, t259, y279, t274)) = some (r1, r2, r3, r4) := by first | (rw [hy279]; exact H) | exact H
        have Ny279 := Aside0.mk hy279
        clear hy279
        simp only [Option.some.injEq, Prod.mk.injEq] at H
        obtain ⟨rfl, rfl, rfl, rfl⟩ := H
        go_wp2_with (first | ((with_reducible refine gate_callee (f := 107) rfl ?_); refine goesL_ (some 33) rfl rfl Try.func107 (by kernel_rfl) rfl #[.pointer (some ⟨g, 0, none⟩), .int .i64 t258] rfl (by (try simp only [List.map_toArray, List.map_cons, List.map_nil]); first | done | rfl | (simp only [List.length_drop, List.length_take]; rfl)) ?_; (with_reducible refine (spec_l20Rd_pick.calls kj5 g s0_0 x1001_5 t258 t273 t274 w0 _ ?side1 ?side2 A18.out).mono ?_); (case side1 => exact IsS124.below HI0.out lt_); (case side2 => exact below_at HB.out); rintro e w24 ⟨rfl, hi, hb, hk⟩; refine ⟨_, rfl, ?_⟩; have n0_ := Aside0.mk (Kd.S_mono (Kd.S_keep (IsS124.apartS (show IsS124 w0 _ g s0_0 x1001_5 from IsS124.below HI0.out lt_) (Kd.S_below HO_6.out lt_) (by decide)) hk (fun _ h => h.2)) (fun _ h => h.1)); have n1_ := Aside0.mk (Kd.R_mono (Kd.R_keep (IsS124.apart (show IsS124 w0 _ g s0_0 x1001_5 from IsS124.below HI0.out lt_) (Kd.R_below HO_7.out lt_) (by decide)) hk (fun _ h => h.2)) (fun _ h => h.1)); have n2_ := Aside0.mk (Kd.R_mono (Kd.R_keep (IsS124.apart (show IsS124 w0 _ g s0_0 x1001_5 from IsS124.below HI0.out lt_) (Kd.R_below HO_8.out lt_) (by decide)) hk (fun _ h => h.2)) (fun _ h => h.1)); have n3_ := Aside0.mk (KeepBut.trans (keep_at HK.out) hk (.inl rfl)); have n4_ := Aside0.mk (hb); have n5_ := Aside0.mk (hi); clear HO_6; clear HO_7; clear HO_8; clear HK; clear HB; clear HI0; have HO_6 := n0_; have HO_7 := n1_; have HO_8 := n2_; have HK := n3_; have HB := n4_; have HI0 := n5_; clear n0_ n1_ n2_ n3_ n4_ n5_; (try clear hb); (try clear hb2); (try clear hk); (try clear hi)) | ((with_reducible refine gate_dst (N := 36) rfl ?_); refine Kd.R_lit k81 _ 81 ?hg (N := 36) ?hd (xs := ([(⟨0, t273⟩ : S81)] : List (S81))) (inner := [.int .i64 0, .int .i64 t273]) (ok := fun _ => True) (okp := fun _ => True) ?hr ?hp (fun _ hk => hk) trivial (Below.refl _ _) (Nat.le_refl _) (by simp) ?_; (case hd => rfl); (case hg => rfl); (case hr => first | (go_simp; done) | (go_simp; rfl)); (case hp => exact (Reps.c2 (show Kd.M k81 _ _ _ (⟨0, t273⟩ : S81) [.int .i64 0, .int .i64 t273] from (k81_mkM _ _ _ (⟨0, t273⟩ : S81) )) (Reps.none _ _))); intro v276 w25 ho26 hb hg_ hnew_; clear hg_ hnew_; (first | rw [← Ny275.out] at ho26 | (simp only [Int.reduceToNat] at ho26; rw [← Ny275.out] at ho26)); have n0_ := Aside0.mk (Kd.S_elder' (Kd.S_below HO_6.out lt_) (Kd.R_base ho26) hb); have n1_ := Aside0.mk (Kd.R_elder' (Kd.R_below HO_7.out lt_) (Kd.R_base ho26) hb); have n2_ := Aside0.mk (Kd.R_below (Kd.R_below HO_8.out lt_) hb); have n3_ := Aside0.mk (Kd.R_lower (Kd.R_new' ho26 (Kd.R_lt (Kd.R_below HO_7.out lt_))) (keep_size (w := w) (g := g) (row := none) (keep_at HK.out))); have n4_ := Aside0.mk (IsS124.below (IsS124.below HI0.out lt_) hb); have n5_ := Aside0.mk (KeepBut.trans (keep_at HK.out) (KeepBut.of_below hb g none) (.inl rfl)); have n6_ := Aside0.mk (below_step (below_at HB.out) hb); clear HO_6; clear HO_7; clear HO_8; clear HI0; clear HK; clear HB; have HO_6 := n0_; have HO_7 := n1_; have HO_8 := n2_; have HO277 := n3_; have HI0 := n4_; have HK := n5_; have HB := n6_; clear n0_ n1_ n2_ n3_ n4_ n5_ n6_; clear hb ho26; obtain ⟨Ao27, co27, eo27⟩ := Kd.R_slice HO_8.out; subst eo27; have p278 : 0 ≤ (0 : Int) := (by omega); have q278 : 0 < (t268.length : Int) := of_decide_eq_true (by first | (with_reducible assumption) | assumption); obtain ⟨ad278, e278, hx278_0⟩ := Kd.at_int (Kd.R_reads' HO_8.out).2.2 0 p278 q278; cases e278; have qi278 : (0 < t268.length) = True := eq_true (by omega); (try rw [show ((0 : Int)).toNat = 0 from rfl] at hx278_0); (try rw [Addr.add_zero'] at hx278_0); replace p278 := eq_true p278; replace q278 := eq_true q278) | ((with_reducible refine gate_builtin (b := .append) (xs := #[.tmp 44, .tmp 46]) rfl ?_); at_builtin; refine Kd.R_append k81 w.heap.size rfl (.tmp 44) (.tmp 46) 56 81 (.agg #[(.int .i64 0), (.int .i64 0)]) 16 rfl Try.underlying56 info81 rfl (by decide) (by omega) v276 y275 (⟨2, 0⟩ : S81) [.int .i64 2, .int .i64 0] (fun k_ => some k_ ≠ (v264 : Value).ownBlock) (fun _ => False) rfl rfl ?aP (fun _ hk => hk.elim) ?aF ?aO (Below.refl _ _) ?aS ?aL ?_; (case aP => exact k81_mkM _ _ _ (⟨2, 0⟩ : S81)); (case aF => exact (fun k_ hk => Kd.fresh' (Kd.R_lt (Kd.R_below HO_7.out lt_)) k_ hk)); (case aO => exact (Kd.R_below (Kd.R_mono HO277.out (fun _ hk => hk.2)) lt_)); (case aS => exact (keep_size (w := w) (g := g) (row := none) (keep_at HK.out))); (case aL => have := LMc23.out; omega); intro v280 w28 ho hb hg hat; rw [← Ny279.out] at ho; have n0_ := Aside0.mk (Kd.S_after (ok := (fun k_ => some k_ ≠ (v264 : Value).ownBlock)) (Kd.S_below HO_6.out lt_) hg hat); have n1_ := Aside0.mk (Kd.R_after (ok := (fun _ => True)) (Kd.R_below HO_7.out lt_) hg hat); have n2_ := Aside0.mk (Kd.R_over' (Kd.R_below HO_8.out lt_) (Kd.R_typed (Kd.R_below HO277.out lt_)) (by decide) hg); have n3_ := Aside0.mk (IsS124.grown (IsS124.below HI0.out lt_) hg (IsS124.own_ne HI0.out HO277.out (by decide))); have n4_ := Aside0.mk (below_weaken (below_at HB.out) HL.out hb); have n5_ := Aside0.mk (KeepBut.trans (keep_at HK.out) (KeepBut.of_grown hg g) (Kd.R_base2 HO277.out)); have n6_ := Aside0.mk (ho); clear HO_6; clear HO_7; clear HO_8; clear HI0; clear HB; clear HK; clear HO277; have HO_6 := n0_; have HO_7 := n1_; have HO_8 := n2_; have HI0 := n3_; have HB := n4_; have HK := n5_; have HO281 := n6_; clear n0_ n1_ n2_ n3_ n4_ n5_ n6_; clear ho hb hg hat))
        go_ret3
        exact ⟨_, _, by first | rfl | (simp [errW_none, errW_some] <;> rfl) | (simp only [← hji21]; first | rfl | (simp [errW_none, errW_some] <;> rfl)) | (simp [*, errW_none, errW_some] <;> rfl), by (with_reducible repeat (first | apply Kd.S_alloc | apply Kd.S_drewN | apply Kd.S_drew)); exact Kd.S_mono HO_6.out (fun _ hk => hk.2), by (with_reducible repeat (first | apply Kd.R_alloc | apply Kd.R_drewN | apply Kd.R_drew)); exact Kd.R_mono HO281.out (fun _ hk => trivial), IsS124.below HI0.out lt_, below_at HB.out, keep_at HK.out⟩
       ·rw [if_neg c23] at H
        exact absurd H (by simp)
      ·rw [if_neg c22] at H
       have c22b0 : ((Int.tmod (ji21) 2) == 0) = false := beq_eq_false_iff_ne.mpr c22
       have c22b1 : ((Int.tmod (ji21) 2) != 0) = true := bne_iff_ne.mpr c22
       simp only [Option.some.injEq, Prod.mk.injEq] at H
       obtain ⟨rfl, rfl, rfl, rfl⟩ := H
       go_wp2_with (first | ((with_reducible refine gate_callee (f := 107) rfl ?_); refine goesL_ (some 33) rfl rfl Try.func107 (by kernel_rfl) rfl #[.pointer (some ⟨g, 0, none⟩), .int .i64 t258] rfl (by (try simp only [List.map_toArray, List.map_cons, List.map_nil]); first | done | rfl | (simp only [List.length_drop, List.length_take]; rfl)) ?_; (with_reducible refine (spec_l20Rd_pick.calls kj5 g s0_0 x1001_5 t258 t273 t274 w0 _ ?side1 ?side2 A18.out).mono ?_); (case side1 => exact IsS124.below HI0.out lt_); (case side2 => exact below_at HB.out); rintro e w29 ⟨rfl, hi, hb, hk⟩; refine ⟨_, rfl, ?_⟩; have n0_ := Aside0.mk (Kd.S_mono (Kd.S_keep (IsS124.apartS (show IsS124 w0 _ g s0_0 x1001_5 from IsS124.below HI0.out lt_) (Kd.S_below HO_6.out lt_) (by decide)) hk (fun _ h => h.2)) (fun _ h => h.1)); have n1_ := Aside0.mk (Kd.R_mono (Kd.R_keep (IsS124.apart (show IsS124 w0 _ g s0_0 x1001_5 from IsS124.below HI0.out lt_) (Kd.R_below HO_7.out lt_) (by decide)) hk (fun _ h => h.2)) (fun _ h => h.1)); have n2_ := Aside0.mk (Kd.R_mono (Kd.R_keep (IsS124.apart (show IsS124 w0 _ g s0_0 x1001_5 from IsS124.below HI0.out lt_) (Kd.R_below HO_8.out lt_) (by decide)) hk (fun _ h => h.2)) (fun _ h => h.1)); have n3_ := Aside0.mk (KeepBut.trans (keep_at HK.out) hk (.inl rfl)); have n4_ := Aside0.mk (hb); have n5_ := Aside0.mk (hi); clear HO_6; clear HO_7; clear HO_8; clear HK; clear HB; clear HI0; have HO_6 := n0_; have HO_7 := n1_; have HO_8 := n2_; have HK := n3_; have HB := n4_; have HI0 := n5_; clear n0_ n1_ n2_ n3_ n4_ n5_; (try clear hb); (try clear hb2); (try clear hk); (try clear hi)) | ((with_reducible refine gate_dst (N := 36) rfl ?_); refine Kd.R_lit k81 _ 81 ?hg (N := 36) ?hd (xs := ([(⟨0, t273⟩ : S81)] : List (S81))) (inner := [.int .i64 0, .int .i64 t273]) (ok := fun _ => True) (okp := fun _ => True) ?hr ?hp (fun _ hk => hk) trivial (Below.refl _ _) (Nat.le_refl _) (by simp) ?_; (case hd => rfl); (case hg => rfl); (case hr => first | (go_simp; done) | (go_simp; rfl)); (case hp => exact (Reps.c2 (show Kd.M k81 _ _ _ (⟨0, t273⟩ : S81) [.int .i64 0, .int .i64 t273] from (k81_mkM _ _ _ (⟨0, t273⟩ : S81) )) (Reps.none _ _))); intro v276 w30 ho31 hb hg_ hnew_; clear hg_ hnew_; (first | rw [← Ny275.out] at ho31 | (simp only [Int.reduceToNat] at ho31; rw [← Ny275.out] at ho31)); have n0_ := Aside0.mk (Kd.S_elder' (Kd.S_below HO_6.out lt_) (Kd.R_base ho31) hb); have n1_ := Aside0.mk (Kd.R_elder' (Kd.R_below HO_7.out lt_) (Kd.R_base ho31) hb); have n2_ := Aside0.mk (Kd.R_below (Kd.R_below HO_8.out lt_) hb); have n3_ := Aside0.mk (Kd.R_lower (Kd.R_new' ho31 (Kd.R_lt (Kd.R_below HO_7.out lt_))) (keep_size (w := w) (g := g) (row := none) (keep_at HK.out))); have n4_ := Aside0.mk (IsS124.below (IsS124.below HI0.out lt_) hb); have n5_ := Aside0.mk (KeepBut.trans (keep_at HK.out) (KeepBut.of_below hb g none) (.inl rfl)); have n6_ := Aside0.mk (below_step (below_at HB.out) hb); clear HO_6; clear HO_7; clear HO_8; clear HI0; clear HK; clear HB; have HO_6 := n0_; have HO_7 := n1_; have HO_8 := n2_; have HO277 := n3_; have HI0 := n4_; have HK := n5_; have HB := n6_; clear n0_ n1_ n2_ n3_ n4_ n5_ n6_; clear hb ho31; obtain ⟨Ao32, co32, eo32⟩ := Kd.R_slice HO_8.out; subst eo32; have p278 : 0 ≤ (0 : Int) := (by omega); have q278 : 0 < (t268.length : Int) := of_decide_eq_true (by first | (with_reducible assumption) | assumption); obtain ⟨ad278, e278, hx278_0⟩ := Kd.at_int (Kd.R_reads' HO_8.out).2.2 0 p278 q278; cases e278; have qi278 : (0 < t268.length) = True := eq_true (by omega); (try rw [show ((0 : Int)).toNat = 0 from rfl] at hx278_0); (try rw [Addr.add_zero'] at hx278_0); replace p278 := eq_true p278; replace q278 := eq_true q278))
       go_ret3
       exact ⟨_, _, by first | rfl | (simp [errW_none, errW_some] <;> rfl) | (simp only [← hji21]; first | rfl | (simp [errW_none, errW_some] <;> rfl)) | (simp [*, errW_none, errW_some] <;> rfl), by (with_reducible repeat (first | apply Kd.S_alloc | apply Kd.S_drewN | apply Kd.S_drew)); exact Kd.S_mono HO_6.out (fun _ hk => hk.2), by (with_reducible repeat (first | apply Kd.R_alloc | apply Kd.R_drewN | apply Kd.R_drew)); exact Kd.R_mono HO277.out (fun _ hk => trivial), IsS124.below HI0.out lt_, below_at HB.out, keep_at HK.out⟩
     ·rw [if_neg c20] at H
      exact absurd H (by simp)
    ·rw [if_neg c19] at H
     exact absurd H (by simp)
   ·replace c17 := Bool.eq_false_iff.mpr c17
    subst c17
    have H1 : (some (t258, t259, t263, x1001_5)) = some (r1, r2, r3, r4) := by rw [if_neg (show ¬ (false = true) by decide)] at H; exact H
    clear H
    have H := H1
    clear H1
    simp only [Option.some.injEq, Prod.mk.injEq] at H
    obtain ⟨rfl, rfl, rfl, rfl⟩ := H
    go_wp2
    go_ret3
    exact ⟨_, _, by first | rfl | (simp [errW_none, errW_some] <;> rfl) | (simp [*, errW_none, errW_some] <;> rfl), by (with_reducible repeat (first | apply Kd.S_alloc | apply Kd.S_drewN | apply Kd.S_drew)); exact HO_6.out, by (with_reducible repeat (first | apply Kd.R_alloc | apply Kd.R_drewN | apply Kd.R_drew)); exact HO_7.out, IsS124.below HI0.out lt_, below_at HB.out, keep_at HK.out⟩

end Go.Proofs.Ytbhmippoeimliaa.P

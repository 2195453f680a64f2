/- Written by our program myprint.py out of Lean's print of the translation: Go's function comes to just the answer of the Lean function told here. -/
import Derived.Test.YtbhmippoeimliaaPx0
import Derived.Test.YtbhmippoeimliaaPx2
import Derived.Test.YtbhmippoeimliaaPx3
import Derived.Test.YtbhmippoeimliaaPx6
import Derived.Test.YtbhmippoeimliaaPx13
namespace Go.Proofs.Ytbhmippoeimliaa.P
open Go.RowKit Go.Proofs.YtbhmippoeimliaaW.PrintWords Go.Proofs.YtbhmippoeimliaaW.PrintLast Go.Proofs.YtbhmippoeimliaaW.PrintMore
attribute [local go_sem] max2_int min2_int max_two min_two max_three min_three max_four min_four   -- for this text's walks alone
set_option linter.unusedVariables false
set_option linter.unusedSimpArgs false

/-! ### impl_claimBy: function 103 -/
def impl_claimBy.f (k : Nat) (a0 : Int) (a1 : Int) (l2 : List (S81)) : Option (Int × (List (S81)) × Bool) := (impl_Mark.f l2).bind fun t254 => ((impl_ClaimOk.f k a0 a1 t254).bind fun t258 => (if t258 = true then (some (a1, t254, true)) else (some (0, ([] : List (S81)), false))))
theorem impl_claimBy.mono : ∀ a0 a1 a2 k, LeO (impl_claimBy.f k a0 a1 a2) (impl_claimBy.f (k + 1) a0 a1 a2) := by
 intro a0 a1 a2 k
 unfold impl_claimBy.f
 repeat' first
   | (with_reducible exact impl_ClaimOk.mono _ _ _ _)
   | (with_reducible exact LeO.refl _)
   | (with_reducible exact LeO.none _)
   | (with_reducible refine LeO.ite ?_ ?_)
   | (with_reducible refine LeO.bind ?_ (fun _ => ?_))
   | exact impl_ClaimOk.mono _ _ _ _
   | exact LeO.none _
   | refine LeO.ite ?_ ?_
   | refine LeO.bind ?_ (fun _ => ?_)
set_option maxHeartbeats 8000000 in
set_option maxRecDepth 100000 in
theorem impl_claimBy.calls (k : Nat) (a0 : Int) (a1 : Int) (A2 : Option Addr) (c2 : Nat) (l2 : List (S81)) (r1 : Int) (r2 : List (S81)) (r3 : Bool) (w : World) (hr2 : Kd.C k81 w A2 l2.length l2) (hc2 : l2.length ≤ c2) (h : impl_claimBy.f k a0 a1 l2 = some (r1, r2, r3)) :
  Calls Try.prog 103 #[.int .i64 a0, .int .i64 a1, .slice A2 l2.length c2] w fun e w' => ∃ v1_ : Value, e = .returned (.tuple #[.agg #[.int .i64 r1, v1_], .bool r3]) ∧ Kd.R k81 81 w' w.heap.size (fun _ => True) v1_ r2 ∧ Below w.heap.size w w' := by
 have hu83 := Try.underlying83
 have HR2 := Aside0.mk hr2
 have HC2 := Aside0.mk hc2
 clear hr2 hc2
 have HB := Aside0.mk (Below.refl w.heap.size w)
 have H : ((impl_Mark.f l2).bind fun t254 => ((impl_ClaimOk.f k a0 a1 t254).bind fun t258 => (if t258 = true then (some (a1, t254, true)) else (some (0, ([] : List (S81)), false))))) = some (r1, r2, r3) := h
 clear h
 replace H := Option.bind_eq_some_iff.mp H
 obtain ⟨t254, A40, H⟩ := H
 try dsimp only at H
 have A4 := Aside0.mk A40
 clear A40
 replace H := Option.bind_eq_some_iff.mp H
 obtain ⟨t258, A50, H⟩ := H
 try dsimp only at H
 have A5 := Aside0.mk A50
 clear A50
 by_cases c6 : t258 = true
 rotate_left
 ·replace c6 := Bool.eq_false_iff.mpr c6
  subst c6
  rw [if_neg (show ¬ (false = true) by decide)] at H
  simp only [Option.some.injEq, Prod.mk.injEq] at H
  obtain ⟨rfl, rfl, rfl⟩ := H
  go_enter Try.func103, Try.ntmps103
  go_wp2_with (first | ((with_reducible refine gate_dst (N := 6) rfl ?_); refine box_event ?hg (N := 6) ?hd (cs := #[.int .i64 0, .slice none 0 0]) (t := 83) ?hr ?_; (case hd => rfl); (case hg => rfl); (case hr => first | (go_simp; done) | (go_simp; rfl)); intro gb253 hg w16 hbox hb; have BK253 := Aside0.mk (hbox); have GW253 := Aside0.mk ((by rw [hg]; exact (below_size (below_at HB.out)) : w.heap.size ≤ gb253)); have GE253 := Aside0.mk ((by rw [hg]; exact (below_size (below_at HB.out)) : w.heap.size ≤ gb253)); replace HB := Aside0.mk (below_step (below_at HB.out) hb); clear hb hbox hg) | ((with_reducible refine gate_callee (f := 119) rfl ?_); refine goesL_ (some 11) rfl rfl Try.func119 (by kernel_rfl) rfl #[.slice A2 l2.length c2] rfl (by (try simp only [List.map_toArray, List.map_cons, List.map_nil]); first | done | rfl | (simp only [List.length_drop, List.length_take]; rfl)) ?_; (with_reducible refine (impl_Mark.calls _ _ l2 t254 _ ?side1 ?side2 A4.out).mono ?_); (case side1 => exact Kd.C_below (Kd.C_below HR2.out HB.out) lt_); (case side2 => exact HC2.out); rintro e w17 ⟨v255, rfl, ho0, hb⟩; refine ⟨_, rfl, ?_⟩; have HO256 := Aside0.mk (Kd.R_lower ho0 (below_size (at_ HB.out))); replace BK253 := Aside0.mk (blk_at BK253.out hb); replace HB := Aside0.mk (below_step (at_ HB.out) hb); (try clear hb); (try clear hb2); (try clear hk); (try clear hi); (try clear ho0); obtain ⟨Ao18, co18, eo18⟩ := Kd.R_slice HO256.out; subst eo18) | ((with_reducible refine gate_dst (N := 8) rfl ?_); refine box_event ?hg (N := 8) ?hd (cs := #[.int .i64 0, .slice none 0 0]) (t := 83) ?hr ?_; (case hd => rfl); (case hg => rfl); (case hr => first | (go_simp; done) | (go_simp; rfl)); intro gb257 hg w19 hbox hb; replace HO256 := Aside0.mk (Kd.R_below (Kd.R_below HO256.out lt_) hb); have BK257 := Aside0.mk (hbox); have GW257 := Aside0.mk ((by rw [hg]; exact (below_size (at_ HB.out)) : w.heap.size ≤ gb257)); have GE257 := Aside0.mk ((by rw [hg]; exact (below_size (at_ HB.out)) : w.heap.size ≤ gb257)); replace HB := Aside0.mk (below_step (at_ HB.out) hb); have NB253_257 := Aside0.mk ((by rw [hg]; exact Nat.ne_of_lt (blk_lt (g := gb253) (o := .cells #[.int .i64 0, .slice none 0 0] 83 (0, 0)) (by (with_reducible repeat (first | refine blk_drewN ?_ _ | refine blk_drew ?_ | refine blk_alloc ?_ _)); exact BK253.out)) : gb253 ≠ gb257)); have NB257_253 := Aside0.mk ((by rw [hg]; exact Nat.ne_of_gt (blk_lt (g := gb253) (o := .cells #[.int .i64 0, .slice none 0 0] 83 (0, 0)) (by (with_reducible repeat (first | refine blk_drewN ?_ _ | refine blk_drew ?_ | refine blk_alloc ?_ _)); exact BK253.out)) : gb257 ≠ gb253)); replace BK253 := Aside0.mk (blk_at BK253.out hb); clear hb hbox hg; have hnb20 := NB257_253.out; have hnc20 := NB253_257.out; have hcz21_0 := blk_cell BK257.out 0; have hcz21_1 := blk_cell BK257.out 1; have hfz21_0 := blk_frozen BK257.out 0; have hfz21_1 := blk_frozen BK257.out 1) | ((with_reducible refine gate_callee (f := 79) rfl ?_); refine goesL_ (some 15) rfl rfl Try.func79 (by kernel_rfl) rfl #[.int .i64 a0, .agg #[.int .i64 a1, .slice Ao18 t254.length co18]] rfl (by (try simp only [List.map_toArray, List.map_cons, List.map_nil]); first | done | rfl | (simp only [List.length_drop, List.length_take]; rfl)) ?_; (with_reducible refine (impl_ClaimOk.calls k a0 a1 _ _ t254 false _ ?side1 ?side2 A5.out).mono ?_); (case side1 => refine (Kd.R_reads' (e := 81) (base := w.heap.size) (ok := fun k_ => True) (n := t254.length) (c := co18) ?_).2.2; exact (by (with_reducible repeat (first | apply Kd.R_alloc | apply Kd.R_drewN | apply Kd.R_drew)); exact (Kd.R_mono (Kd.R_far (p := ⟨gb257, 1, none⟩) (Kd.R_far (p := ⟨gb257, 0, none⟩) (Kd.R_types HO256.out BK257.out (by decide)) (fun _ hk => hk.2) (.int .i64 a1)) (fun _ hk => hk.2) (.slice Ao18 t254.length co18)) (fun _ h_ => h_.1)))); (case side2 => exact (Kd.R_reads' HO256.out).2.1); rintro e w22 ⟨rfl, hb⟩; refine ⟨_, rfl, ?_⟩; replace BK253 := Aside0.mk (blk_below (g := gb253) (o := .cells #[.int .i64 0, .slice none 0 0] 83 (0, 0)) (by (with_reducible repeat (first | refine blk_drewN ?_ _ | refine blk_drew ?_ | refine blk_alloc ?_ _)); refine blk_far ?_ NB253_257.out _; (with_reducible repeat (first | refine blk_drewN ?_ _ | refine blk_drew ?_ | refine blk_alloc ?_ _)); refine blk_far ?_ NB253_257.out _; (with_reducible repeat (first | refine blk_drewN ?_ _ | refine blk_drew ?_ | refine blk_alloc ?_ _)); exact BK253.out) hb); replace HB := Aside0.mk (below_step (at_ HB.out) hb); (try clear HO256 BK257); (try clear hb); (try clear hb2); (try clear hk); (try clear hi); have hcz23_0 := blk_cell BK253.out 0; have hcz23_1 := blk_cell BK253.out 1; have hfz23_0 := blk_frozen BK253.out 0; have hfz23_1 := blk_frozen BK253.out 1))
  refine bodyPost_ret (results_ct rfl _ _ gb253 83 #[.int .i64 0, .slice none 0 0] (0, 0) _ rfl (by (with_reducible repeat (first | refine blk_drewN ?_ _ | refine blk_drew ?_ | refine blk_alloc ?_ _)); refine blk_put (cs := #[.int .i64 0, .slice none 0 0]) ?_ 1 _ rfl; (with_reducible repeat (first | refine blk_drewN ?_ _ | refine blk_drew ?_ | refine blk_alloc ?_ _)); refine blk_put (cs := #[.int .i64 0, .slice none 0 0]) ?_ 0 _ rfl; (with_reducible repeat (first | refine blk_drewN ?_ _ | refine blk_drew ?_ | refine blk_alloc ?_ _)); exact BK253.out) Try.underlying83 rfl (by kernel_rfl)) rfl ?_
  exact ⟨_, by first | rfl | (simp [errW_none, errW_some] <;> rfl) | (simp [*, errW_none, errW_some] <;> rfl), by first | exact Kd.R_nil _ _ _ _ _ | exact Kd.N_nil _ _ _ _ _ | exact Kd.V_nil _ _ _ _ _ | exact Kd.Q_nil _ _ _ _ _ | exact Kd.S_nil _ _ _ _ _, at_ HB.out⟩
 subst c6
 rw [if_pos rfl] at H
 simp only [Option.some.injEq, Prod.mk.injEq] at H
 obtain ⟨rfl, rfl, rfl⟩ := H
 go_enter Try.func103, Try.ntmps103
 go_wp2_with (first | ((with_reducible refine gate_dst (N := 6) rfl ?_); refine box_event ?hg (N := 6) ?hd (cs := #[.int .i64 0, .slice none 0 0]) (t := 83) ?hr ?_; (case hd => rfl); (case hg => rfl); (case hr => first | (go_simp; done) | (go_simp; rfl)); intro gb253 hg w7 hbox hb; have BK253 := Aside0.mk (hbox); have GW253 := Aside0.mk ((by rw [hg]; exact (below_size (below_at HB.out)) : w.heap.size ≤ gb253)); have GE253 := Aside0.mk ((by rw [hg]; exact (below_size (below_at HB.out)) : w.heap.size ≤ gb253)); replace HB := Aside0.mk (below_step (below_at HB.out) hb); clear hb hbox hg) | ((with_reducible refine gate_callee (f := 119) rfl ?_); refine goesL_ (some 11) rfl rfl Try.func119 (by kernel_rfl) rfl #[.slice A2 l2.length c2] rfl (by (try simp only [List.map_toArray, List.map_cons, List.map_nil]); first | done | rfl | (simp only [List.length_drop, List.length_take]; rfl)) ?_; (with_reducible refine (impl_Mark.calls _ _ l2 t254 _ ?side1 ?side2 A4.out).mono ?_); (case side1 => exact Kd.C_below (Kd.C_below HR2.out HB.out) lt_); (case side2 => exact HC2.out); rintro e w8 ⟨v255, rfl, ho0, hb⟩; refine ⟨_, rfl, ?_⟩; have HO256 := Aside0.mk (Kd.R_lower ho0 (below_size (at_ HB.out))); replace BK253 := Aside0.mk (blk_at BK253.out hb); replace HB := Aside0.mk (below_step (at_ HB.out) hb); (try clear hb); (try clear hb2); (try clear hk); (try clear hi); (try clear ho0); obtain ⟨Ao9, co9, eo9⟩ := Kd.R_slice HO256.out; subst eo9) | ((with_reducible refine gate_dst (N := 8) rfl ?_); refine box_event ?hg (N := 8) ?hd (cs := #[.int .i64 0, .slice none 0 0]) (t := 83) ?hr ?_; (case hd => rfl); (case hg => rfl); (case hr => first | (go_simp; done) | (go_simp; rfl)); intro gb257 hg w10 hbox hb; replace HO256 := Aside0.mk (Kd.R_below (Kd.R_below HO256.out lt_) hb); have BK257 := Aside0.mk (hbox); have GW257 := Aside0.mk ((by rw [hg]; exact (below_size (at_ HB.out)) : w.heap.size ≤ gb257)); have GE257 := Aside0.mk ((by rw [hg]; exact (below_size (at_ HB.out)) : w.heap.size ≤ gb257)); replace HB := Aside0.mk (below_step (at_ HB.out) hb); have NB253_257 := Aside0.mk ((by rw [hg]; exact Nat.ne_of_lt (blk_lt (g := gb253) (o := .cells #[.int .i64 0, .slice none 0 0] 83 (0, 0)) (by (with_reducible repeat (first | refine blk_drewN ?_ _ | refine blk_drew ?_ | refine blk_alloc ?_ _)); exact BK253.out)) : gb253 ≠ gb257)); have NB257_253 := Aside0.mk ((by rw [hg]; exact Nat.ne_of_gt (blk_lt (g := gb253) (o := .cells #[.int .i64 0, .slice none 0 0] 83 (0, 0)) (by (with_reducible repeat (first | refine blk_drewN ?_ _ | refine blk_drew ?_ | refine blk_alloc ?_ _)); exact BK253.out)) : gb257 ≠ gb253)); replace BK253 := Aside0.mk (blk_at BK253.out hb); clear hb hbox hg; have hnb11 := NB257_253.out; have hnc11 := NB253_257.out; have hcz12_0 := blk_cell BK257.out 0; have hcz12_1 := blk_cell BK257.out 1; have hfz12_0 := blk_frozen BK257.out 0; have hfz12_1 := blk_frozen BK257.out 1) | ((with_reducible refine gate_callee (f := 79) rfl ?_); refine goesL_ (some 15) rfl rfl Try.func79 (by kernel_rfl) rfl #[.int .i64 a0, .agg #[.int .i64 a1, .slice Ao9 t254.length co9]] rfl (by (try simp only [List.map_toArray, List.map_cons, List.map_nil]); first | done | rfl | (simp only [List.length_drop, List.length_take]; rfl)) ?_; (with_reducible refine (impl_ClaimOk.calls k a0 a1 _ _ t254 true _ ?side1 ?side2 A5.out).mono ?_); (case side1 => refine (Kd.R_reads' (e := 81) (base := w.heap.size) (ok := fun k_ => True) (n := t254.length) (c := co9) ?_).2.2; exact (by (with_reducible repeat (first | apply Kd.R_alloc | apply Kd.R_drewN | apply Kd.R_drew)); exact (Kd.R_mono (Kd.R_far (p := ⟨gb257, 1, none⟩) (Kd.R_far (p := ⟨gb257, 0, none⟩) (Kd.R_types HO256.out BK257.out (by decide)) (fun _ hk => hk.2) (.int .i64 a1)) (fun _ hk => hk.2) (.slice Ao9 t254.length co9)) (fun _ h_ => h_.1)))); (case side2 => exact (Kd.R_reads' HO256.out).2.1); rintro e w13 ⟨rfl, hb⟩; refine ⟨_, rfl, ?_⟩; replace HO256 := Aside0.mk (Kd.R_below (by (with_reducible repeat (first | apply Kd.R_alloc | apply Kd.R_drewN | apply Kd.R_drew)); exact (Kd.R_mono (Kd.R_far (p := ⟨gb257, 1, none⟩) (Kd.R_far (p := ⟨gb257, 0, none⟩) (Kd.R_types HO256.out BK257.out (by decide)) (fun _ hk => hk.2) (.int .i64 a1)) (fun _ hk => hk.2) (.slice Ao9 t254.length co9)) (fun _ h_ => h_.1))) hb); replace BK253 := Aside0.mk (blk_below (g := gb253) (o := .cells #[.int .i64 0, .slice none 0 0] 83 (0, 0)) (by (with_reducible repeat (first | refine blk_drewN ?_ _ | refine blk_drew ?_ | refine blk_alloc ?_ _)); refine blk_far ?_ NB253_257.out _; (with_reducible repeat (first | refine blk_drewN ?_ _ | refine blk_drew ?_ | refine blk_alloc ?_ _)); refine blk_far ?_ NB253_257.out _; (with_reducible repeat (first | refine blk_drewN ?_ _ | refine blk_drew ?_ | refine blk_alloc ?_ _)); exact BK253.out) hb); replace BK257 := Aside0.mk (blk_below (g := gb257) (o := .cells #[.int .i64 a1, .slice Ao9 t254.length co9] 83 (0, 0)) (by (with_reducible repeat (first | refine blk_drewN ?_ _ | refine blk_drew ?_ | refine blk_alloc ?_ _)); refine blk_put (cs := #[.int .i64 a1, .slice none 0 0]) ?_ 1 _ rfl; (with_reducible repeat (first | refine blk_drewN ?_ _ | refine blk_drew ?_ | refine blk_alloc ?_ _)); refine blk_put (cs := #[.int .i64 0, .slice none 0 0]) ?_ 0 _ rfl; (with_reducible repeat (first | refine blk_drewN ?_ _ | refine blk_drew ?_ | refine blk_alloc ?_ _)); exact BK257.out) hb); replace HB := Aside0.mk (below_step (at_ HB.out) hb); (try clear hb); (try clear hb2); (try clear hk); (try clear hi); have hcz14_0 := blk_cell BK257.out 0; have hcz14_1 := blk_cell BK257.out 1; have hfz14_0 := blk_frozen BK257.out 0; have hfz14_1 := blk_frozen BK257.out 1; have hcz15_0 := blk_cell BK253.out 0; have hcz15_1 := blk_cell BK253.out 1; have hfz15_0 := blk_frozen BK253.out 0; have hfz15_1 := blk_frozen BK253.out 1))
 refine bodyPost_ret (results_ct rfl _ _ gb253 83 #[.int .i64 a1, .slice Ao9 t254.length co9] (0, 0) _ rfl (by (with_reducible repeat (first | refine blk_drewN ?_ _ | refine blk_drew ?_ | refine blk_alloc ?_ _)); refine blk_put (cs := #[.int .i64 a1, .slice none 0 0]) ?_ 1 _ rfl; (with_reducible repeat (first | refine blk_drewN ?_ _ | refine blk_drew ?_ | refine blk_alloc ?_ _)); refine blk_put (cs := #[.int .i64 0, .slice none 0 0]) ?_ 0 _ rfl; (with_reducible repeat (first | refine blk_drewN ?_ _ | refine blk_drew ?_ | refine blk_alloc ?_ _)); exact BK253.out) Try.underlying83 rfl (by kernel_rfl)) rfl ?_
 exact ⟨_, by first | rfl | (simp [errW_none, errW_some] <;> rfl) | (simp [*, errW_none, errW_some] <;> rfl), by (with_reducible repeat (first | apply Kd.R_alloc | apply Kd.R_drewN | apply Kd.R_drew)); exact Kd.R_mono (Kd.R_far (p := ⟨gb253, 1, none⟩) (Kd.R_far (p := ⟨gb253, 0, none⟩) (Kd.R_types HO256.out BK253.out (by decide)) (fun _ hk => hk.2) (.int .i64 a1)) (fun _ hk => hk.2) (.slice Ao9 t254.length co9)) (fun _ hk => trivial), at_ HB.out⟩

/-! ### impl_DenyClaim: function 105 -/
def impl_DenyClaim.f (k : Nat) (a0 : Int) (a1_0 : Int) (l1_1 : List (S81)) : Option (Int × (List (S81)) × Bool) := (impl_ClaimOk.f k a0 a1_0 l1_1).bind fun t261 => (if t261 = true then ((impl_Mark.f l1_1).bind fun t262 => ((some (([(⟨2, 0⟩ : S81)] : List (S81)) : List (S81))).bind fun y265 => (if t262.length + y265.length < 8796093022208 then ((impl_claimBy.f k a0 a1_0 (t262 ++ y265)).bind fun bt271 => (some (bt271.1, bt271.2.1, bt271.2.2))) else (none)))) else (some (0, ([] : List (S81)), false)))
theorem impl_DenyClaim.mono : ∀ a0 a1 a2 k, LeO (impl_DenyClaim.f k a0 a1 a2) (impl_DenyClaim.f (k + 1) a0 a1 a2) := by
 intro a0 a1 a2 k
 unfold impl_DenyClaim.f
 repeat' first
   | (with_reducible exact impl_ClaimOk.mono _ _ _ _)
   | (with_reducible exact impl_claimBy.mono _ _ _ _)
   | (with_reducible exact LeO.refl _)
   | (with_reducible exact LeO.none _)
   | (with_reducible refine LeO.ite ?_ ?_)
   | (with_reducible refine LeO.bind ?_ (fun _ => ?_))
   | exact impl_ClaimOk.mono _ _ _ _
   | exact impl_claimBy.mono _ _ _ _
   | exact LeO.none _
   | refine LeO.ite ?_ ?_
   | refine LeO.bind ?_ (fun _ => ?_)
def impl_DenyClaim.T3 : Bool × List (List Nat × List Nat) := (true, [([], []), ([], []), ([1], [1]), ([], []), ([3], [3]), ([4], [4]), ([], []), ([6], [6]), ([5, 7, 5], [5, 7]), ([0, 2, 8, 8], [0, 2, 8]), ([9], [9]), ([9], [9]), ([10, 9, 0, 1, 2, 3, 4, 5, 6, 7, 8, 9, 10, 11], [10]), ([11, 12, 0, 1, 2, 3, 4, 5, 6, 7, 8, 9, 10, 11, 12], [11])])
def impl_DenyClaim.B3 : List Nat := [0, 0, 2, 0, 8, 24, 0, 64, 248, 511, 1023, 1023, 4095, 8191]
theorem impl_DenyClaim.tab3 : rtab .any (opsOf Try.f105 3) = impl_DenyClaim.T3 := by kernel_rfl
theorem impl_DenyClaim.bits3 : waitsOk impl_DenyClaim.T3.2 impl_DenyClaim.B3 = true := by kernel_rfl
set_option maxHeartbeats 8000000 in
set_option maxRecDepth 100000 in
theorem impl_DenyClaim.calls (k : Nat) (a0 : Int) (a1_0 : Int) (A1_1 : Option Addr) (c1_1 : Nat) (l1_1 : List (S81)) (r1 : Int) (r2 : List (S81)) (r3 : Bool) (w : World) (hr1_1 : Kd.C k81 w A1_1 l1_1.length l1_1) (hc1_1 : l1_1.length ≤ c1_1) (h : impl_DenyClaim.f k a0 a1_0 l1_1 = some (r1, r2, r3)) :
  Calls Try.prog 105 #[.int .i64 a0, .agg #[.int .i64 a1_0, .slice A1_1 l1_1.length c1_1]] w fun e w' => ∃ v1_ : Value, e = .returned (.tuple #[.agg #[.int .i64 r1, v1_], .bool r3]) ∧ Kd.R k81 81 w' w.heap.size (fun _ => True) v1_ r2 ∧ Below w.heap.size w w' := by
 have hu83 := Try.underlying83
 have hu81 := Try.underlying81
 have HR1_1 := Aside0.mk hr1_1
 have HC1_1 := Aside0.mk hc1_1
 clear hr1_1 hc1_1
 have HB := Aside0.mk (Below.refl w.heap.size w)
 have H : ((impl_ClaimOk.f k a0 a1_0 l1_1).bind fun t261 => (if t261 = true then ((impl_Mark.f l1_1).bind fun t262 => ((some (([(⟨2, 0⟩ : S81)] : List (S81)) : List (S81))).bind fun y265 => (if t262.length + y265.length < 8796093022208 then ((impl_claimBy.f k a0 a1_0 (t262 ++ y265)).bind fun bt271 => (some (bt271.1, bt271.2.1, bt271.2.2))) else (none)))) else (some (0, ([] : List (S81)), false)))) = some (r1, r2, r3) := h
 clear h
 replace H := Option.bind_eq_some_iff.mp H
 obtain ⟨t261, A30, H⟩ := H
 try dsimp only at H
 have A3 := Aside0.mk A30
 clear A30
 by_cases c4 : t261 = true
 rotate_left
 ·replace c4 := Bool.eq_false_iff.mpr c4
  subst c4
  rw [if_neg (show ¬ (false = true) by decide)] at H
  simp only [Option.some.injEq, Prod.mk.injEq] at H
  obtain ⟨rfl, rfl, rfl⟩ := H
  go_enter Try.func105, Try.ntmps105
  go_wp2_with (first | ((with_reducible refine gate_dst (N := 3) rfl ?_); refine box_event ?hg (N := 3) ?hd (cs := #[.int .i64 a1_0, .slice A1_1 l1_1.length c1_1]) (t := 83) ?hr ?_; (case hd => rfl); (case hg => rfl); (case hr => first | (go_simp; done) | (go_simp; rfl)); intro gb259 hg w25 hbox hb; have BK259 := Aside0.mk (hbox); have GW259 := Aside0.mk ((by rw [hg]; exact (below_size (below_at HB.out)) : w.heap.size ≤ gb259)); have GE259 := Aside0.mk ((by rw [hg]; exact (below_size (below_at HB.out)) : w.heap.size ≤ gb259)); replace HB := Aside0.mk (below_step (below_at HB.out) hb); clear hb hbox hg) | ((with_reducible refine gate_dst (N := 4) rfl ?_); refine box_event ?hg (N := 4) ?hd (cs := #[.int .i64 0, .slice none 0 0]) (t := 83) ?hr ?_; (case hd => rfl); (case hg => rfl); (case hr => first | (go_simp; done) | (go_simp; rfl)); intro gb260 hg w26 hbox hb; have BK260 := Aside0.mk (hbox); have GW260 := Aside0.mk ((by rw [hg]; exact (below_size (at_ HB.out)) : w.heap.size ≤ gb260)); have GE260 := Aside0.mk ((by rw [hg]; exact (below_size (at_ HB.out)) : w.heap.size ≤ gb260)); replace HB := Aside0.mk (below_step (at_ HB.out) hb); have NB259_260 := Aside0.mk ((by rw [hg]; exact Nat.ne_of_lt (blk_lt (g := gb259) (o := .cells #[.int .i64 a1_0, .slice A1_1 l1_1.length c1_1] 83 (0, 0)) (by (with_reducible repeat (first | refine blk_drewN ?_ _ | refine blk_drew ?_ | refine blk_alloc ?_ _)); exact BK259.out)) : gb259 ≠ gb260)); have NB260_259 := Aside0.mk ((by rw [hg]; exact Nat.ne_of_gt (blk_lt (g := gb259) (o := .cells #[.int .i64 a1_0, .slice A1_1 l1_1.length c1_1] 83 (0, 0)) (by (with_reducible repeat (first | refine blk_drewN ?_ _ | refine blk_drew ?_ | refine blk_alloc ?_ _)); exact BK259.out)) : gb260 ≠ gb259)); replace BK259 := Aside0.mk (blk_at BK259.out hb); clear hb hbox hg; have hnb27 := NB259_260.out; have hnc27 := NB260_259.out; have hcz28_0 := blk_cell BK259.out 0; have hcz28_1 := blk_cell BK259.out 1; have hfz28_0 := blk_frozen BK259.out 0; have hfz28_1 := blk_frozen BK259.out 1) | ((with_reducible refine gate_callee (f := 79) rfl ?_); refine goesL_ (some 8) rfl rfl Try.func79 (by kernel_rfl) rfl #[.int .i64 a0, .agg #[.int .i64 a1_0, .slice A1_1 l1_1.length c1_1]] rfl (by (try simp only [List.map_toArray, List.map_cons, List.map_nil]); first | done | rfl | (simp only [List.length_drop, List.length_take]; rfl)) ?_; (with_reducible refine (impl_ClaimOk.calls k a0 a1_0 _ _ l1_1 false _ ?side1 ?side2 A3.out).mono ?_); (case side1 => exact Kd.C_below (Kd.C_below HR1_1.out HB.out) lt_); (case side2 => exact HC1_1.out); rintro e w29 ⟨rfl, hb⟩; refine ⟨_, rfl, ?_⟩; replace BK260 := Aside0.mk (blk_at BK260.out hb); replace HB := Aside0.mk (below_step (at_ HB.out) hb); (try clear BK259); (try clear hb); (try clear hb2); (try clear hk); (try clear hi); have hcz30_0 := blk_cell BK260.out 0; have hcz30_1 := blk_cell BK260.out 1; have hfz30_0 := blk_frozen BK260.out 0; have hfz30_1 := blk_frozen BK260.out 1))
  refine bodyPost_ret (results_ct rfl _ _ gb260 83 #[.int .i64 0, .slice none 0 0] (0, 0) _ rfl (by (with_reducible repeat (first | refine blk_drewN ?_ _ | refine blk_drew ?_ | refine blk_alloc ?_ _)); refine blk_put (cs := #[.int .i64 0, .slice none 0 0]) ?_ 1 _ rfl; (with_reducible repeat (first | refine blk_drewN ?_ _ | refine blk_drew ?_ | refine blk_alloc ?_ _)); refine blk_put (cs := #[.int .i64 0, .slice none 0 0]) ?_ 0 _ rfl; (with_reducible repeat (first | refine blk_drewN ?_ _ | refine blk_drew ?_ | refine blk_alloc ?_ _)); exact BK260.out) Try.underlying83 rfl (by kernel_rfl)) rfl ?_
  exact ⟨_, by first | rfl | (simp [errW_none, errW_some] <;> rfl) | (simp [*, errW_none, errW_some] <;> rfl), by first | exact Kd.R_nil _ _ _ _ _ | exact Kd.N_nil _ _ _ _ _ | exact Kd.V_nil _ _ _ _ _ | exact Kd.Q_nil _ _ _ _ _ | exact Kd.S_nil _ _ _ _ _, at_ HB.out⟩
 subst c4
 rw [if_pos rfl] at H
 replace H := Option.bind_eq_some_iff.mp H
 obtain ⟨t262, A50, H⟩ := H
 try dsimp only at H
 have A5 := Aside0.mk A50
 clear A50
 obtain ⟨y265, hy265⟩ : ∃ y_ : List (S81), y_ = (([(⟨2, 0⟩ : S81)] : List (S81))) := ⟨_, rfl⟩
 replace H : (if t262.length + y265.length < 8796093022208 then ((impl_claimBy.f k a0 a1_0 (t262 ++ y265)).bind fun bt271 => (some (bt271.1, bt271.2.1, bt271.2.2))) else (none)) = some (r1, r2, r3) := by first | (rw [hy265]; exact H) | exact H
 have Ny265 := Aside0.mk hy265
 clear hy265
 by_cases c6 : t262.length + y265.length < 8796093022208
 rotate_left
 ·rw [if_neg c6] at H
  exact absurd H (by simp)
 rw [if_pos c6] at H
 have LMc6 := Aside0.mk c6
 clear c6
 obtain ⟨y268, hy268⟩ : ∃ y_ : List (S81), y_ = (t262 ++ y265) := ⟨_, rfl⟩
 replace H : ((impl_claimBy.f k a0 a1_0 y268).bind fun bt271 => (some (bt271.1, bt271.2.1, bt271.2.2))) = some (r1, r2, r3) := by first | (rw [hy268]; exact H) | exact H
 have Ny268 := Aside0.mk hy268
 clear hy268
 replace H := Option.bind_eq_some_iff.mp H
 obtain ⟨⟨t271, t272, t275⟩, A70, H⟩ := H
 try dsimp only at H
 have A7 := Aside0.mk A70
 clear A70
 simp only [Option.some.injEq, Prod.mk.injEq] at H
 obtain ⟨rfl, rfl, rfl⟩ := H
 go_enter Try.func105, Try.ntmps105
 try go_wp2_with (first | ((with_reducible refine gate_dst (N := 3) rfl ?_); refine box_event ?hg (N := 3) ?hd (cs := #[.int .i64 a1_0, .slice A1_1 l1_1.length c1_1]) (t := 83) ?hr ?_; (case hd => rfl); (case hg => rfl); (case hr => first | (go_simp; done) | (go_simp; rfl)); intro gb259 hg w8 hbox hb; have BK259 := Aside0.mk (hbox); have GW259 := Aside0.mk ((by rw [hg]; exact (below_size (below_at HB.out)) : w.heap.size ≤ gb259)); have GE259 := Aside0.mk ((by rw [hg]; exact (below_size (below_at HB.out)) : w.heap.size ≤ gb259)); replace HB := Aside0.mk (below_step (below_at HB.out) hb); clear hb hbox hg) | ((with_reducible refine gate_dst (N := 4) rfl ?_); refine box_event ?hg (N := 4) ?hd (cs := #[.int .i64 0, .slice none 0 0]) (t := 83) ?hr ?_; (case hd => rfl); (case hg => rfl); (case hr => first | (go_simp; done) | (go_simp; rfl)); intro gb260 hg w9 hbox hb; have BK260 := Aside0.mk (hbox); have GW260 := Aside0.mk ((by rw [hg]; exact (below_size (at_ HB.out)) : w.heap.size ≤ gb260)); have GE260 := Aside0.mk ((by rw [hg]; exact (below_size (at_ HB.out)) : w.heap.size ≤ gb260)); replace HB := Aside0.mk (below_step (at_ HB.out) hb); have NB259_260 := Aside0.mk ((by rw [hg]; exact Nat.ne_of_lt (blk_lt (g := gb259) (o := .cells #[.int .i64 a1_0, .slice A1_1 l1_1.length c1_1] 83 (0, 0)) (by (with_reducible repeat (first | refine blk_drewN ?_ _ | refine blk_drew ?_ | refine blk_alloc ?_ _)); exact BK259.out)) : gb259 ≠ gb260)); have NB260_259 := Aside0.mk ((by rw [hg]; exact Nat.ne_of_gt (blk_lt (g := gb259) (o := .cells #[.int .i64 a1_0, .slice A1_1 l1_1.length c1_1] 83 (0, 0)) (by (with_reducible repeat (first | refine blk_drewN ?_ _ | refine blk_drew ?_ | refine blk_alloc ?_ _)); exact BK259.out)) : gb260 ≠ gb259)); replace BK259 := Aside0.mk (blk_at BK259.out hb); clear hb hbox hg; have hnb10 := NB259_260.out; have hnc10 := NB260_259.out; have hcz11_0 := blk_cell BK259.out 0; have hcz11_1 := blk_cell BK259.out 1; have hfz11_0 := blk_frozen BK259.out 0; have hfz11_1 := blk_frozen BK259.out 1) | ((with_reducible refine gate_callee (f := 79) rfl ?_); refine goesL_ (some 8) rfl rfl Try.func79 (by kernel_rfl) rfl #[.int .i64 a0, .agg #[.int .i64 a1_0, .slice A1_1 l1_1.length c1_1]] rfl (by (try simp only [List.map_toArray, List.map_cons, List.map_nil]); first | done | rfl | (simp only [List.length_drop, List.length_take]; rfl)) ?_; (with_reducible refine (impl_ClaimOk.calls k a0 a1_0 _ _ l1_1 true _ ?side1 ?side2 A3.out).mono ?_); (case side1 => exact Kd.C_below (Kd.C_below HR1_1.out HB.out) lt_); (case side2 => exact HC1_1.out); rintro e w12 ⟨rfl, hb⟩; refine ⟨_, rfl, ?_⟩; replace BK259 := Aside0.mk (blk_at BK259.out hb); replace BK260 := Aside0.mk (blk_at BK260.out hb); replace HB := Aside0.mk (below_step (at_ HB.out) hb); (try clear hb); (try clear hb2); (try clear hk); (try clear hi)))
 replace BK259 := Aside0.mk (blk_drew BK259.out)
 replace BK260 := Aside0.mk (blk_drew BK260.out)
 replace HB := Aside0.mk (below_drew1 HB.out)
 refine start_ (n := 14) (S := fun w' => w'.cell? ⟨gb259, 0, none⟩ = some (.int .i64 a1_0) ∧ w'.cell? ⟨gb259, 1, none⟩ = some (.slice A1_1 l1_1.length c1_1)) (ds := []) #[false, false, false, false, false, false, false, false, false, false, false, false, false, false] (by kernel_rfl) rfl rfl ⟨(blk_cell BK259.out 0).trans rfl, (blk_cell BK259.out 1).trans rfl⟩ (fun hHeld => ?_); refine with_tabW impl_DenyClaim.tab3 impl_DenyClaim.bits3 (fun HT_ HW_ => ?_)
 generalize w12.drew = w13 at BK259 BK260 HB hHeld ⊢
 refine pure_ (i := 0) (N := some 11) (v := ?_) (a' := ?_) #[true, false, false, false, false, false, false, false, false, false, false, false, false, false] rfl rfl (any_of HT_.out (by kernel_rfl)) (fun _ _ _ h => h) (Or.inl ⟨by rfl, ?_⟩) ?_ ?_
 rotate_left
 ·intro w'
  go_simp
  with_reducible rfl
 rotate_left
 ·simp only [Act.put, z0_, z1_, z2_, i64_w, i32_w]
  rfl
 refine pure_ (i := 1) (N := some 12) (v := ?_) (a' := ?_) #[true, true, false, false, false, false, false, false, false, false, false, false, false, false] rfl rfl (any_of HT_.out (by kernel_rfl)) (fun _ _ _ h => h) (Or.inl ⟨by rfl, ?_⟩) ?_ ?_
 rotate_left
 ·intro w'
  go_simp
  with_reducible rfl
 rotate_left
 ·simp only [Act.put, z0_, z1_, z2_, i64_w, i32_w]
  rfl
 refine pure_ (i := 3) (N := some 14) (v := ?_) (a' := ?_) #[true, true, false, true, false, false, false, false, false, false, false, false, false, false] rfl rfl (any_of HT_.out (by kernel_rfl)) (fun _ _ _ h => h) (Or.inl ⟨by rfl, ?_⟩) ?_ ?_
 rotate_left
 ·intro w'
  go_simp
  with_reducible rfl
 rotate_left
 ·simp only [Act.put, z0_, z1_, z2_, i64_w, i32_w]
  rfl
 refine pure_ (i := 6) (N := some 17) (v := ?_) (a' := ?_) #[true, true, false, true, false, false, true, false, false, false, false, false, false, false] rfl rfl (any_of HT_.out (by kernel_rfl)) (fun _ _ _ h => h) (Or.inl ⟨by rfl, ?_⟩) ?_ ?_
 rotate_left
 ·intro w'
  go_simp
  with_reducible rfl
 rotate_left
 ·simp only [Act.put, z0_, z1_, z2_, i64_w, i32_w]
  rfl
 refine take_ (i := 2) (N := some 13) (v := ?_) (a' := ?_) #[true, true, true, true, false, false, true, false, false, false, false, false, false, false] rfl rfl (take_ofW HT_.out HW_.out (by kernel_rfl)) (fun _ _ _ h => h) (Or.inl ⟨by rfl, ?_⟩) hHeld ?_ ?_
 rotate_left
 ·rintro w' ⟨s0, s1⟩
  go_simp
  with_reducible rfl
 rotate_left
 ·simp only [Act.put, z0_, z1_, z2_, i64_w, i32_w]
  rfl
 refine take_ (i := 4) (N := some 15) (v := ?_) (a' := ?_) #[true, true, true, true, true, false, true, false, false, false, false, false, false, false] rfl rfl (take_ofW HT_.out HW_.out (by kernel_rfl)) (fun _ _ _ h => h) (Or.inl ⟨by rfl, ?_⟩) hHeld ?_ ?_
 rotate_left
 ·rintro w' ⟨s0, s1⟩
  go_simp
  with_reducible rfl
 rotate_left
 ·simp only [Act.put, z0_, z1_, z2_, i64_w, i32_w]
  rfl
 refine join_ (σ := Value × Value) 6 #[true, true, true, true, true, true, true, true, false, false, false, false, false, false] (fun s_ => [(16, s_.1), (18, s_.2)]) (fun s_ w' => (w'.cell? ⟨gb259, 0, none⟩ = some (.int .i64 a1_0) ∧ w'.cell? ⟨gb259, 1, none⟩ = some (.slice A1_1 l1_1.length c1_1)) ∧ (Kd.R k81 81 w' w.heap.size (fun k_ => some k_ ≠ (s_.2 : Value).ownBlock) s_.1 t262) ∧ (Kd.R k81 81 w' w.heap.size (fun k_ => some k_ ≠ (s_.1 : Value).ownBlock) s_.2 y265) ∧ (w'.heap[gb259]? = some (.cells #[.int .i64 a1_0, .slice A1_1 l1_1.length c1_1] 83 (0, 0))) ∧ (w'.heap[gb260]? = some (.cells #[.int .i64 0, .slice none 0 0] 83 (0, 0))) ∧ (Below w.heap.size w w')) ?_ ?_
 rotate_left
 ·intro hCont
  refine two_ (i := 5) (j := 7) (Ni := some 16) (Nj := some 18) #[true, true, true, true, true, true, true, false, false, false, false, false, false, false] #[true, true, true, true, true, false, true, true, false, false, false, false, false, false] rfl rfl rfl rfl (two_of HT_.out (by kernel_rfl)) (by decide) (by decide) (fun K hK => ?_) (fun K hK => ?_)
  ·skip
   refine goes_ Try.func119 (by kernel_rfl) rfl #[.slice A1_1 l1_1.length c1_1] (by rfl) rfl rfl (by (try simp only [List.map_toArray, List.map_cons, List.map_nil]); first | done | rfl | (simp only [List.length_drop, List.length_take]; rfl)) ?_
   with_reducible refine (impl_Mark.calls _ _ l1_1 t262 _ ?side1 ?side2 A5.out).mono ?_
   (case side1 => exact Kd.C_below (Kd.C_below HR1_1.out HB.out) lt_)
   (case side2 => exact HC1_1.out)
   rintro e w14 ⟨v263, rfl, ho0, hb⟩
   refine ⟨_, rfl, ?_⟩
   have HO264 := Aside0.mk (Kd.R_lower ho0 (below_size (at_ HB.out)))
   replace BK259 := Aside0.mk (blk_at BK259.out hb)
   replace BK260 := Aside0.mk (blk_at BK260.out hb)
   replace HB := Aside0.mk (below_step (at_ HB.out) hb)
   (try clear hb)
   (try clear hb2)
   (try clear hk)
   (try clear hi)
   (try clear ho0)
   refine hK.out _ _ ⟨(blk_cell BK259.out 0).trans rfl, (blk_cell BK259.out 1).trans rfl⟩ (fun hHeld => ?_)
   clear hK K
   refine norm_ (a' := ?_) ?_ ?_
   rotate_left
   ·show Act.put _ (some 16) _ = _
    simp only [Act.put, z0_, z1_, z2_, i64_w, i32_w]
    rfl
   refine one_ (i := 7) (N := some 18) #[true, true, true, true, true, true, true, true, false, false, false, false, false, false] rfl rfl (one_of HT_.out (by kernel_rfl)) (by decide) (fun K hK => ?_)
   refine Kd.R_lit_step k81 _ 81 ?hg (N := 18) ?hd (xs := ([(⟨2, 0⟩ : S81)] : List (S81))) (inner := [.int .i64 2, .int .i64 0]) (ok := fun _ => True) (okp := fun _ => True) ?hr ?hp (fun _ hk => hk) trivial (Below.refl _ _) (Nat.le_refl _) (by simp) ?_; (case hd => rfl); (case hg => rfl); (case hr => first | (go_simp; done) | (go_simp; rfl)); (case hp => exact (Reps.c2 (show Kd.M k81 _ _ _ (⟨2, 0⟩ : S81) [.int .i64 2, .int .i64 0] from (k81_mkM _ _ _ (⟨2, 0⟩ : S81) )) (Reps.none _ _)))
   intro v266 w15 ho16 hb hg_ hnew_
   clear hg_ hnew_
   (first | rw [← Ny265.out] at ho16 | (simp only [Int.reduceToNat] at ho16; rw [← Ny265.out] at ho16))
   have HO267 := Aside0.mk (Kd.R_lower (Kd.R_new' ho16 (Kd.R_lt (Kd.R_below HO264.out lt_))) (below_size (at_ HB.out)))
   replace HO264 := Aside0.mk (Kd.R_elder' (Kd.R_below HO264.out lt_) (Kd.R_base ho16) hb)
   replace BK259 := Aside0.mk (blk_at BK259.out hb)
   replace BK260 := Aside0.mk (blk_at BK260.out hb)
   replace HB := Aside0.mk (below_step (at_ HB.out) hb)
   clear hb ho16
   refine hK.out _ _ ⟨(blk_cell BK259.out 0).trans rfl, (blk_cell BK259.out 1).trans rfl⟩ (fun hHeld => ?_)
   clear hK K
   refine norm_ (a' := ?_) ?_ ?_
   rotate_left
   ·show Act.put _ (some 18) _ = _
    simp only [Act.put, z0_, z1_, z2_, i64_w, i32_w]
    rfl
   exact norm_ (by simp only [putAll, Act.put, z0_, z1_, z2_]) (hCont (v263, v266) _ ⟨hHeld, (Kd.R_below (Kd.R_mono HO264.out (fun _ hk => hk.2)) lt_), (Kd.R_below (Kd.R_mono HO267.out (fun _ hk => hk.2)) lt_), (by (with_reducible repeat (first | refine blk_drewN ?_ _ | refine blk_drew ?_ | refine blk_alloc ?_ _)); exact BK259.out), (by (with_reducible repeat (first | refine blk_drewN ?_ _ | refine blk_drew ?_ | refine blk_alloc ?_ _)); exact BK260.out), (at_ HB.out)⟩)
  skip
  refine Kd.R_lit_step k81 _ 81 ?hg (N := 18) ?hd (xs := ([(⟨2, 0⟩ : S81)] : List (S81))) (inner := [.int .i64 2, .int .i64 0]) (ok := fun _ => True) (okp := fun _ => True) ?hr ?hp (fun _ hk => hk) trivial (Below.refl _ _) (Nat.le_refl _) (by simp) ?_; (case hd => rfl); (case hg => rfl); (case hr => first | (go_simp; done) | (go_simp; rfl)); (case hp => exact (Reps.c2 (show Kd.M k81 _ _ _ (⟨2, 0⟩ : S81) [.int .i64 2, .int .i64 0] from (k81_mkM _ _ _ (⟨2, 0⟩ : S81) )) (Reps.none _ _)))
  intro v266 w14 ho15 hb hg_ hnew_
  clear hg_ hnew_
  (first | rw [← Ny265.out] at ho15 | (simp only [Int.reduceToNat] at ho15; rw [← Ny265.out] at ho15))
  have HO267 := Aside0.mk (Kd.R_lower ho15 (below_size (at_ HB.out)))
  replace BK259 := Aside0.mk (blk_at BK259.out hb)
  replace BK260 := Aside0.mk (blk_at BK260.out hb)
  replace HB := Aside0.mk (below_step (at_ HB.out) hb)
  clear hb ho15
  refine hK.out _ _ ⟨(blk_cell BK259.out 0).trans rfl, (blk_cell BK259.out 1).trans rfl⟩ (fun hHeld => ?_)
  clear hK K
  refine norm_ (a' := ?_) ?_ ?_
  rotate_left
  ·show Act.put _ (some 18) _ = _
   simp only [Act.put, z0_, z1_, z2_, i64_w, i32_w]
   rfl
  refine one_ (i := 5) (N := some 16) #[true, true, true, true, true, true, true, true, false, false, false, false, false, false] rfl rfl (one_of HT_.out (by kernel_rfl)) (by decide) (fun K hK => ?_)
  refine goes_ Try.func119 (by kernel_rfl) rfl #[.slice A1_1 l1_1.length c1_1] (by rfl) rfl rfl (by (try simp only [List.map_toArray, List.map_cons, List.map_nil]); first | done | rfl | (simp only [List.length_drop, List.length_take]; rfl)) ?_
  with_reducible refine (impl_Mark.calls _ _ l1_1 t262 _ ?side1 ?side2 A5.out).mono ?_
  (case side1 => exact Kd.C_below (Kd.C_below HR1_1.out HB.out) lt_)
  (case side2 => exact HC1_1.out)
  rintro e w16 ⟨v263, rfl, ho0, hb⟩
  refine ⟨_, rfl, ?_⟩
  have HO264 := Aside0.mk (Kd.R_lower (Kd.R_new' ho0 (Kd.R_lt (Kd.R_below HO267.out lt_))) (below_size (at_ HB.out)))
  replace HO267 := Aside0.mk (Kd.R_elder' (Kd.R_below HO267.out lt_) (Kd.R_base ho0) hb)
  replace BK259 := Aside0.mk (blk_at BK259.out hb)
  replace BK260 := Aside0.mk (blk_at BK260.out hb)
  replace HB := Aside0.mk (below_step (at_ HB.out) hb)
  (try clear hb)
  (try clear hb2)
  (try clear hk)
  (try clear hi)
  (try clear ho0)
  refine hK.out _ _ ⟨(blk_cell BK259.out 0).trans rfl, (blk_cell BK259.out 1).trans rfl⟩ (fun hHeld => ?_)
  clear hK K
  refine norm_ (a' := ?_) ?_ ?_
  rotate_left
  ·show Act.put _ (some 16) _ = _
   simp only [Act.put, z0_, z1_, z2_, i64_w, i32_w]
   rfl
  exact norm_ (by simp only [putAll, Act.put, z0_, z1_, z2_]) (hCont (v263, v266) _ ⟨hHeld, (Kd.R_below (Kd.R_mono HO264.out (fun _ hk => hk.2)) lt_), (Kd.R_below (Kd.R_mono HO267.out (fun _ hk => hk.2)) lt_), (by (with_reducible repeat (first | refine blk_drewN ?_ _ | refine blk_drew ?_ | refine blk_alloc ?_ _)); exact BK259.out), (by (with_reducible repeat (first | refine blk_drewN ?_ _ | refine blk_drew ?_ | refine blk_alloc ?_ _)); exact BK260.out), (at_ HB.out)⟩)
 rintro ⟨v263, v266⟩ w17 ⟨hS_, h0_, h1_, h2_, h3_, h4_⟩
 have n0_ : Aside0 (Kd.R k81 81 w17 w.heap.size (fun k_ => some k_ ≠ (v266 : Value).ownBlock) v263 t262) := ⟨h0_⟩
 have n1_ : Aside0 (Kd.R k81 81 w17 w.heap.size (fun k_ => some k_ ≠ (v263 : Value).ownBlock) v266 y265) := ⟨h1_⟩
 have n2_ : Aside0 (w17.heap[gb259]? = some (.cells #[.int .i64 a1_0, .slice A1_1 l1_1.length c1_1] 83 (0, 0))) := ⟨h2_⟩
 have n3_ : Aside0 (w17.heap[gb260]? = some (.cells #[.int .i64 0, .slice none 0 0] 83 (0, 0))) := ⟨h3_⟩
 have n4_ : Aside0 (Below w.heap.size w w17) := ⟨h4_⟩
 clear BK259
 clear BK260
 clear HB
 clear h0_ h1_ h2_ h3_ h4_
 have HO264 := n0_
 have HO267 := n1_
 have BK259 := n2_
 have BK260 := n3_
 have HB := n4_
 clear n0_ n1_ n2_ n3_ n4_
 have hHeld : w17.cell? ⟨gb259, 0, none⟩ = some (.int .i64 a1_0) ∧ w17.cell? ⟨gb259, 1, none⟩ = some (.slice A1_1 l1_1.length c1_1) := hS_
 obtain ⟨Ao19, co19, eo19⟩ := Kd.R_slice HO267.out
 (first | subst eo19 | (injection eo19 with f1_ f2_ f3_; have f4_ := f1_.symm; have f5_ := f3_.symm; clear f1_ f2_ f3_; subst f4_; subst f5_))
 refine norm_ (a' := ?_) ?_ ?_
 rotate_left
 ·simp only [putAll, Act.put, z0_, z1_, z2_]
  rfl
 refine one_ (i := 8) (N := some 19) #[true, true, true, true, true, true, true, true, true, false, false, false, false, false] rfl rfl (one_of HT_.out (by kernel_rfl)) (by decide) (fun K hK => ?_)
 refine Kd.R_append_rows_step k81 (w0 := w) w.heap.size (by rfl) (.tmp 16) (.tmp 18) 56 81 (.agg #[(.int .i64 0), (.int .i64 0)]) 16 rfl Try.underlying56 info81 rfl (by decide) (by omega) v263 t262 y265 _ _ _ (fun k_ => some k_ ≠ (.slice Ao19 y265.length co19 : Value).ownBlock) (fun _ => False) rfl rfl ?aO ?aR (fun _ _ h => h) (fun _ h => h.elim) ?aF ?aB ?aS ?aL ?_
 (case aR => exact Kd.C_below (Kd.R_reads' HO267.out).2.2 lt_)
 (case aB => exact (at_ HB.out))
 (case aF => exact (fun k_ hk => Kd.fresh' (Kd.R_lt (Kd.R_below HO267.out lt_)) k_ hk))
 (case aO => exact (Kd.R_below HO264.out lt_))
 (case aS => exact (below_size (at_ HB.out)))
 (case aL => have := LMc6.out; omega)
 intro v269 w18 ho hb hg hat
 rw [← Ny268.out] at ho
 replace BK259 := Aside0.mk (blk_grown (g := gb259) (o := .cells #[.int .i64 a1_0, .slice A1_1 l1_1.length c1_1] 83 (0, 0)) (by (with_reducible repeat (first | refine blk_drewN ?_ _ | refine blk_drew ?_ | refine blk_alloc ?_ _)); exact BK259.out) hg (Kd.R_ne HO264.out BK259.out (by decide)))
 replace BK260 := Aside0.mk (blk_grown (g := gb260) (o := .cells #[.int .i64 0, .slice none 0 0] 83 (0, 0)) (by (with_reducible repeat (first | refine blk_drewN ?_ _ | refine blk_drew ?_ | refine blk_alloc ?_ _)); exact BK260.out) hg (Kd.R_ne HO264.out BK260.out (by decide)))
 replace HO267 := Aside0.mk (Kd.R_after (ok := (fun _ => True)) (Kd.R_below (Kd.R_mono HO267.out (fun _ hk => ⟨trivial, hk⟩)) lt_) hg hat)
 replace HB := Aside0.mk (hb)
 have HO270 := Aside0.mk (ho)
 (try clear HO264)
 clear ho hb hg hat
 obtain ⟨Ao20, co20, eo20⟩ := Kd.R_slice HO270.out
 (first | subst eo20 | (injection eo20 with f1_ f2_ f3_; have f4_ := f1_.symm; have f5_ := f3_.symm; clear f1_ f2_ f3_; subst f4_; subst f5_))
 refine hK.out _ _ ⟨(blk_cell BK259.out 0).trans rfl, (blk_cell BK259.out 1).trans rfl⟩ (fun hHeld => ?_)
 clear hK K
 refine norm_ (a' := ?_) ?_ ?_
 rotate_left
 ·show Act.put _ (some 19) _ = _
  simp only [Act.put, z0_, z1_, z2_, i64_w, i32_w]
  rfl
 refine one_ (i := 9) (N := some 20) #[true, true, true, true, true, true, true, true, true, true, false, false, false, false] rfl rfl (one_of HT_.out (by kernel_rfl)) (by decide) (fun K hK => ?_)
 refine goes_ Try.func103 (by kernel_rfl) rfl #[.int .i64 a0, .int .i64 a1_0, .slice Ao20 y268.length co20] (by rfl) rfl rfl (by (try simp only [List.map_toArray, List.map_cons, List.map_nil]); first | done | rfl | (simp only [List.length_drop, List.length_take]; rfl)) ?_
 with_reducible refine (impl_claimBy.calls k a0 a1_0 _ _ y268 t271 t272 t275 _ ?side1 ?side2 A7.out).mono ?_
 (case side1 => exact Kd.C_below (Kd.R_reads' HO270.out).2.2 lt_)
 (case side2 => exact (Kd.R_reads' HO270.out).2.1)
 rintro e w21 ⟨v273, rfl, ho0, hb⟩
 refine ⟨_, rfl, ?_⟩
 have HO274 := Aside0.mk (Kd.R_lower (Kd.R_new' (Kd.R_new' ho0 (Kd.R_lt (Kd.R_below HO267.out lt_))) (Kd.R_lt (Kd.R_below HO270.out lt_))) (below_size (at_ HB.out)))
 replace BK259 := Aside0.mk (blk_at BK259.out hb)
 replace BK260 := Aside0.mk (blk_at BK260.out hb)
 replace HB := Aside0.mk (below_step (at_ HB.out) hb)
 (try clear HO267 HO270)
 (try clear hb)
 (try clear hb2)
 (try clear hk)
 (try clear hi)
 (try clear ho0)
 obtain ⟨Ao23, co23, eo23⟩ := Kd.R_slice HO274.out
 (first | subst eo23 | (injection eo23 with f1_ f2_ f3_; have f4_ := f1_.symm; have f5_ := f3_.symm; clear f1_ f2_ f3_; subst f4_; subst f5_))
 refine hK.out _ _ ⟨(blk_cell BK259.out 0).trans rfl, (blk_cell BK259.out 1).trans rfl⟩ (fun hHeld => ?_)
 clear hK K
 refine norm_ (a' := ?_) ?_ ?_
 rotate_left
 ·show Act.put _ (some 20) _ = _
  simp only [Act.put, z0_, z1_, z2_, i64_w, i32_w]
  rfl
 refine pure_ (i := 10) (N := some 21) (v := ?_) (a' := ?_) #[true, true, true, true, true, true, true, true, true, true, true, false, false, false] rfl rfl (any_of HT_.out (by kernel_rfl)) (fun _ _ _ h => h) (Or.inl ⟨by rfl, ?_⟩) ?_ ?_
 rotate_left
 ·intro w'
  go_simp
  with_reducible rfl
 rotate_left
 ·simp only [Act.put, z0_, z1_, z2_, i64_w, i32_w]
  rfl
 refine pure_ (i := 11) (N := some 22) (v := ?_) (a' := ?_) #[true, true, true, true, true, true, true, true, true, true, true, true, false, false] rfl rfl (any_of HT_.out (by kernel_rfl)) (fun _ _ _ h => h) (Or.inl ⟨by rfl, ?_⟩) ?_ ?_
 rotate_left
 ·intro w'
  go_simp
  with_reducible rfl
 rotate_left
 ·simp only [Act.put, z0_, z1_, z2_, i64_w, i32_w]
  rfl
 refine one_ (i := 12) (N := none) #[true, true, true, true, true, true, true, true, true, true, true, true, true, false] rfl rfl (one_of HT_.out (by kernel_rfl)) (by decide) (fun K hK => ?_)
 have hs22 : w21.cell? ⟨gb260, 0, none⟩ = some (.int .i64 0) := (blk_cell BK260.out 0).trans rfl
 have hfs22 := blk_frozen BK260.out 0
 have hns22_0 := NB259_260.out
 have hms22_0 := NB260_259.out
 have hs24 : w21.cell? ⟨gb260, 1, none⟩ = some (.slice none 0 0) := (blk_cell BK260.out 1).trans rfl
 have hfs24 := blk_frozen BK260.out 1
 have hns24_0 := NB259_260.out
 have hms24_0 := NB260_259.out
 refine skip_ (w1 := ?_) (by rfl) rfl ?_ ?_
 rotate_left
 ·go_simp
  rfl
 refine hK.out _ _ ⟨((cell_far (p := ⟨gb260, _, none⟩) NB259_260.out _).trans (((cell_far (p := ⟨gb260, _, none⟩) NB259_260.out _).trans (hHeld.1)))), ((cell_far (p := ⟨gb260, _, none⟩) NB259_260.out _).trans (((cell_far (p := ⟨gb260, _, none⟩) NB259_260.out _).trans (hHeld.2))))⟩ (fun hHeld => ?_)
 clear hK K
 refine pure_ (i := 13) (N := some 5) (v := ?_) (a' := ?_) #[true, true, true, true, true, true, true, true, true, true, true, true, true, true] rfl rfl (any_of HT_.out (by kernel_rfl)) (fun _ _ _ h => h) (Or.inl ⟨by rfl, ?_⟩) ?_ ?_
 rotate_left
 ·intro w'
  go_simp
  with_reducible rfl
 rotate_left
 ·simp only [Act.put, z0_, z1_, z2_, i64_w, i32_w]
  rfl
 refine done_ (done_of HT_.out (by kernel_rfl)) ?_
 try go_wp2
 refine bodyPost_ret (results_ct rfl _ _ gb260 83 #[.int .i64 t271, .slice Ao23 t272.length co23] (0, 0) _ rfl (by (with_reducible repeat (first | refine blk_drewN ?_ _ | refine blk_drew ?_ | refine blk_alloc ?_ _)); refine blk_put (cs := #[.int .i64 t271, .slice none 0 0]) ?_ 1 _ rfl; (with_reducible repeat (first | refine blk_drewN ?_ _ | refine blk_drew ?_ | refine blk_alloc ?_ _)); refine blk_put (cs := #[.int .i64 0, .slice none 0 0]) ?_ 0 _ rfl; (with_reducible repeat (first | refine blk_drewN ?_ _ | refine blk_drew ?_ | refine blk_alloc ?_ _)); exact BK260.out) Try.underlying83 rfl (by kernel_rfl)) rfl ?_
 exact ⟨_, by first | rfl | (simp [errW_none, errW_some] <;> rfl) | (simp [*, errW_none, errW_some] <;> rfl), by (with_reducible repeat (first | apply Kd.R_alloc | apply Kd.R_drewN | apply Kd.R_drew)); exact Kd.R_mono (Kd.R_far (p := ⟨gb260, 1, none⟩) (Kd.R_far (p := ⟨gb260, 0, none⟩) (Kd.R_types HO274.out BK260.out (by decide)) (fun _ hk => hk.2) (.int .i64 t271)) (fun _ hk => hk.2) (.slice Ao23 t272.length co23)) (fun _ hk => trivial), at_ HB.out⟩

/-! ### impl_MadeStory: function 57 -/
mutual
def impl_MadeStory.j0 : Nat → Int → Int → List (List (S81)) → Bool → Option ((List (S83)) × Bool)
 | 0, _, _, _, _ => none
 | k + 1, x0, x1, x2, x22 => if x22 = true then (some (([] : List (S83)), false)) else (impl_MadeStory.l0 k x0 x1 (([] : List (S83))) x2 (x2.length : Int) 0)
def impl_MadeStory.l0 : Nat → Int → Int → List (S83) → List (List (S81)) → Int → Int → Option ((List (S83)) × Bool)
 | 0, _, _, _, _, _, _ => none
 | k + 1, x0, x1, x8, x24, x25, x26 => if x26 < x25 then (if 0 ≤ x26 then (if x26 < (x24.length : Int) then ((impl_claimBy.f k x0 x26 (rd_L2 x24 x26)).bind fun bt281 => (if bt281.2.2 = true then ((impl_maySay.f k bt281.1 bt281.2.1 x1).bind fun t287 => (impl_MadeStory.j2 k x0 x1 x8 bt281.2.2 x24 x25 x26 (!t287) bt281.1 bt281.2.1)) else (impl_MadeStory.j2 k x0 x1 x8 bt281.2.2 x24 x25 x26 false bt281.1 bt281.2.1))) else (none)) else (none)) else (some (x8, true))
def impl_MadeStory.j2 : Nat → Int → Int → List (S83) → Bool → List (List (S81)) → Int → Int → Bool → Int → List (S81) → Option ((List (S83)) × Bool)
 | 0, _, _, _, _, _, _, _, _, _, _ => none
 | k + 1, x0, x1, x8, x12, x24, x25, x26, x44, x287000, x287001 => if x44 = true then ((impl_DenyClaim.f k x0 x287000 x287001).bind fun bt288 => (if bt288.2.2 = true then (if x8.length < 4398046511104 then (impl_MadeStory.l0 k x0 x1 (x8 ++ [(⟨bt288.1, bt288.2.1⟩ : S83)]) x24 x25 (wrap64 (x26 + 1))) else (none)) else (some (([] : List (S83)), false)))) else (if x12 = true then (if x8.length < 4398046511104 then (impl_MadeStory.l0 k x0 x1 (x8 ++ [(⟨x287000, x287001⟩ : S83)]) x24 x25 (wrap64 (x26 + 1))) else (none)) else (some (([] : List (S83)), false)))
end
def impl_MadeStory.f (k : Nat) (a0 : Int) (a1 : Int) (l2 : List (List (S81))) : Option ((List (S83)) × Bool) := (impl_WorldOk.f a0 a1).bind fun t276 => (if t276 = true then (impl_MadeStory.j0 k a0 a1 l2 (decide ((l2.length : Int) > a0))) else (impl_MadeStory.j0 k a0 a1 l2 true))
theorem impl_MadeStory.mono_l : ∀ k, (∀ y0 y1 y2 y3, LeO (impl_MadeStory.j0 k y0 y1 y2 y3) (impl_MadeStory.j0 (k + 1) y0 y1 y2 y3)) ∧ (∀ y0 y1 y2 y3 y4 y5, LeO (impl_MadeStory.l0 k y0 y1 y2 y3 y4 y5) (impl_MadeStory.l0 (k + 1) y0 y1 y2 y3 y4 y5)) ∧ (∀ y0 y1 y2 y3 y4 y5 y6 y7 y8 y9, LeO (impl_MadeStory.j2 k y0 y1 y2 y3 y4 y5 y6 y7 y8 y9) (impl_MadeStory.j2 (k + 1) y0 y1 y2 y3 y4 y5 y6 y7 y8 y9))
 | 0 => ⟨fun _ _ _ _ r h => by simp [impl_MadeStory.j0] at h, fun _ _ _ _ _ _ r h => by simp [impl_MadeStory.l0] at h, fun _ _ _ _ _ _ _ _ _ _ r h => by simp [impl_MadeStory.j2] at h⟩
 | k + 1 => by
  obtain ⟨ih0, ih1, ih2⟩ := impl_MadeStory.mono_l k
  refine ⟨?_, ?_, ?_⟩
  ·intro y0 y1 y2 y3
   unfold impl_MadeStory.j0
   repeat' first
   | (with_reducible exact ih0 _ _ _ _)
   | (with_reducible exact ih1 _ _ _ _ _ _)
   | (with_reducible exact ih2 _ _ _ _ _ _ _ _ _ _)
   | (with_reducible exact impl_DenyClaim.mono _ _ _ _)
   | (with_reducible exact impl_claimBy.mono _ _ _ _)
   | (with_reducible exact impl_maySay.mono _ _ _ _)
   | (with_reducible exact LeO.refl _)
   | (with_reducible exact LeO.none _)
   | (with_reducible refine LeO.ite ?_ ?_)
   | (with_reducible refine LeO.bind ?_ (fun _ => ?_))
   | exact ih0 _ _ _ _
   | exact ih1 _ _ _ _ _ _
   | exact ih2 _ _ _ _ _ _ _ _ _ _
   | exact impl_DenyClaim.mono _ _ _ _
   | exact impl_claimBy.mono _ _ _ _
   | exact impl_maySay.mono _ _ _ _
   | exact LeO.none _
   | refine LeO.ite ?_ ?_
   | refine LeO.bind ?_ (fun _ => ?_)
  ·intro y0 y1 y2 y3 y4 y5
   unfold impl_MadeStory.l0
   repeat' first
   | (with_reducible exact ih0 _ _ _ _)
   | (with_reducible exact ih1 _ _ _ _ _ _)
   | (with_reducible exact ih2 _ _ _ _ _ _ _ _ _ _)
   | (with_reducible exact impl_DenyClaim.mono _ _ _ _)
   | (with_reducible exact impl_claimBy.mono _ _ _ _)
   | (with_reducible exact impl_maySay.mono _ _ _ _)
   | (with_reducible exact LeO.refl _)
   | (with_reducible exact LeO.none _)
   | (with_reducible refine LeO.ite ?_ ?_)
   | (with_reducible refine LeO.bind ?_ (fun _ => ?_))
   | exact ih0 _ _ _ _
   | exact ih1 _ _ _ _ _ _
   | exact ih2 _ _ _ _ _ _ _ _ _ _
   | exact impl_DenyClaim.mono _ _ _ _
   | exact impl_claimBy.mono _ _ _ _
   | exact impl_maySay.mono _ _ _ _
   | exact LeO.none _
   | refine LeO.ite ?_ ?_
   | refine LeO.bind ?_ (fun _ => ?_)
  ·intro y0 y1 y2 y3 y4 y5 y6 y7 y8 y9
   unfold impl_MadeStory.j2
   repeat' first
   | (with_reducible exact ih0 _ _ _ _)
   | (with_reducible exact ih1 _ _ _ _ _ _)
   | (with_reducible exact ih2 _ _ _ _ _ _ _ _ _ _)
   | (with_reducible exact impl_DenyClaim.mono _ _ _ _)
   | (with_reducible exact impl_claimBy.mono _ _ _ _)
   | (with_reducible exact impl_maySay.mono _ _ _ _)
   | (with_reducible exact LeO.refl _)
   | (with_reducible exact LeO.none _)
   | (with_reducible refine LeO.ite ?_ ?_)
   | (with_reducible refine LeO.bind ?_ (fun _ => ?_))
   | exact ih0 _ _ _ _
   | exact ih1 _ _ _ _ _ _
   | exact ih2 _ _ _ _ _ _ _ _ _ _
   | exact impl_DenyClaim.mono _ _ _ _
   | exact impl_claimBy.mono _ _ _ _
   | exact impl_maySay.mono _ _ _ _
   | exact LeO.none _
   | refine LeO.ite ?_ ?_
   | refine LeO.bind ?_ (fun _ => ?_)
theorem impl_MadeStory.mono : ∀ a0 a1 a2 k, LeO (impl_MadeStory.f k a0 a1 a2) (impl_MadeStory.f (k + 1) a0 a1 a2) := by
 intro a0 a1 a2 k
 obtain ⟨ih0, ih1, ih2⟩ := impl_MadeStory.mono_l k
 unfold impl_MadeStory.f
 repeat' first
   | (with_reducible exact ih0 _ _ _ _)
   | (with_reducible exact ih1 _ _ _ _ _ _)
   | (with_reducible exact ih2 _ _ _ _ _ _ _ _ _ _)
   | (with_reducible exact impl_DenyClaim.mono _ _ _ _)
   | (with_reducible exact impl_claimBy.mono _ _ _ _)
   | (with_reducible exact impl_maySay.mono _ _ _ _)
   | (with_reducible exact LeO.refl _)
   | (with_reducible exact LeO.none _)
   | (with_reducible refine LeO.ite ?_ ?_)
   | (with_reducible refine LeO.bind ?_ (fun _ => ?_))
   | exact ih0 _ _ _ _
   | exact ih1 _ _ _ _ _ _
   | exact ih2 _ _ _ _ _ _ _ _ _ _
   | exact impl_DenyClaim.mono _ _ _ _
   | exact impl_claimBy.mono _ _ _ _
   | exact impl_maySay.mono _ _ _ _
   | exact LeO.none _
   | refine LeO.ite ?_ ?_
   | refine LeO.bind ?_ (fun _ => ?_)
set_option maxHeartbeats 8000000 in
set_option maxRecDepth 100000 in
theorem impl_MadeStory.calls (k : Nat) (a0 : Int) (a1 : Int) (A2 : Option Addr) (c2 : Nat) (l2 : List (List (S81))) (r1 : List (S83)) (r2 : Bool) (w : World) (hr2 : Kd.C (Kd.slice 81 k81) w A2 l2.length l2) (hc2 : l2.length ≤ c2) (h : impl_MadeStory.f k a0 a1 l2 = some (r1, r2)) :
  Calls Try.prog 57 #[.int .i64 a0, .int .i64 a1, .slice A2 l2.length c2] w fun e w' => ∃ v0_ : Value, e = .returned (.tuple #[v0_, .bool r2]) ∧ Kd.S k83 83 w' w.heap.size (fun _ => True) v0_ r1 ∧ Below w.heap.size w w' := by
 have hu83 := Try.underlying83
 have HR2 := Aside0.mk hr2
 have HC2 := Aside0.mk hc2
 clear hr2 hc2
 have HB := Aside0.mk (Below.refl w.heap.size w)
 have H : ((impl_WorldOk.f a0 a1).bind fun t276 => (if t276 = true then (impl_MadeStory.j0 k a0 a1 l2 (decide ((l2.length : Int) > a0))) else (impl_MadeStory.j0 k a0 a1 l2 true))) = some (r1, r2) := h
 clear h
 have HC4 := Aside0.mk H
 clear H
 go_enter Try.func57, Try.ntmps57
 go_upto_region 1 with (fail)
 go_cut [22] (fun v22 wc => ∃ (kq : Nat) (x22_3 : Bool), v22 = .bool x22_3 ∧ Aside0 (impl_MadeStory.j0 kq a0 a1 l2 x22_3 = some (r1, r2)) ∧ Aside0 (kq ≤ k) ∧ Aside0 (Below w.heap.size w wc))
 case first =>
  have H := HC4.out
  clear HC4
  replace H := Option.bind_eq_some_iff.mp H
  obtain ⟨t276, A50, H⟩ := H
  try dsimp only at H
  have A5 := Aside0.mk A50
  clear A50
  by_cases c6 : t276 = true
  ·subst c6
   rw [if_pos rfl] at H
   have H' := Aside0.mk H
   clear H
   go_wp2_with (first | ((with_reducible refine gate_callee (f := 68) rfl ?_); refine goesL_ (some 15) rfl rfl Try.func68 (by kernel_rfl) rfl #[.int .i64 a0, .int .i64 a1] rfl (by (try simp only [List.map_toArray, List.map_cons, List.map_nil]); first | done | rfl | (simp only [List.length_drop, List.length_take]; rfl)) ?_; (with_reducible refine (impl_WorldOk.calls a0 a1 true _ A5.out).mono ?_); rintro e w' ⟨rfl, ⟨nd, rfl⟩⟩; refine ⟨_, rfl, ?_⟩))
   go_meet
   case rel => exact ⟨_, (decide ((l2.length : Int) > a0)), (by first | rfl | (simp; done) | (simp [*]; done)), H', ⟨by first | omega | exact Nat.le_refl _⟩, ⟨below_at HB.out⟩⟩
  replace c6 := Bool.eq_false_iff.mpr c6
  subst c6
  rw [if_neg (show ¬ (false = true) by decide)] at H
  have H' := Aside0.mk H
  clear H
  go_wp2_with (first | ((with_reducible refine gate_callee (f := 68) rfl ?_); refine goesL_ (some 15) rfl rfl Try.func68 (by kernel_rfl) rfl #[.int .i64 a0, .int .i64 a1] rfl (by (try simp only [List.map_toArray, List.map_cons, List.map_nil]); first | done | rfl | (simp only [List.length_drop, List.length_take]; rfl)) ?_; (with_reducible refine (impl_WorldOk.calls a0 a1 false _ A5.out).mono ?_); rintro e w' ⟨rfl, ⟨nd, rfl⟩⟩; refine ⟨_, rfl, ?_⟩))
  go_meet
  case rel => exact ⟨_, (true), (by first | rfl | (simp; done) | (simp [*]; done)), H', ⟨by first | omega | exact Nat.le_refl _⟩, ⟨below_at HB.out⟩⟩
 clear HC4
 try clear c2
 try clear p2
 try clear c5
 try clear c6
 obtain ⟨kq, x22_3, rfl, HA, HJ3, HB⟩ := hcut
 cases kq with
 | zero => exact absurd HA.out (by simp [impl_MadeStory.j0])
 | succ kj3 =>
  have H := HA.out
  clear HA
  simp only [impl_MadeStory.j0] at H
  by_cases c7 : x22_3 = true
  ·subst c7
   rw [if_pos rfl] at H
   simp only [Option.some.injEq, Prod.mk.injEq] at H
   obtain ⟨rfl, rfl⟩ := H
   go_wp2
   go_ret2
   exact ⟨_, by first | rfl | (simp [errW_none, errW_some] <;> rfl) | (simp [*, errW_none, errW_some] <;> rfl), by first | exact Kd.S_nil _ _ _ _ _ | exact Kd.N_nil _ _ _ _ _ | exact Kd.V_nil _ _ _ _ _ | exact Kd.Q_nil _ _ _ _ _ | exact Kd.R_nil _ _ _ _ _, below_at HB.out⟩
  replace c7 := Bool.eq_false_iff.mpr c7
  subst c7
  rw [if_neg (show ¬ (false = true) by decide)] at H
  obtain ⟨y277, hy277⟩ : ∃ y_ : List (S83), y_ = (([] : List (S83))) := ⟨_, rfl⟩
  replace H : (impl_MadeStory.l0 kj3 a0 a1 y277 l2 (l2.length : Int) 0) = some (r1, r2) := by first | (rw [hy277]; exact H) | exact H
  have Ny277 := Aside0.mk hy277
  clear hy277
  have H' := Aside0.mk H
  clear H
  go_wp2_with (first | ((with_reducible refine gate_dst (N := 23) rfl ?_); (try (refine gate_guard (by rfl) ?_; dsimp only)); refine Kd.S_lit k83 _ 83 ?hg (N := 23) ?hd (xs := ([] : List (S83))) (inner := []) (ok := fun _ => True) (okp := fun _ => True) ?hr ?hp (fun _ hk => hk) trivial (Below.refl _ _) (Nat.le_refl _) (by simp) ?_; (case hd => rfl); (case hg => rfl); (case hr => first | (go_simp; done) | (go_simp; rfl)); (case hp => exact (Reps.none _ _)); intro v278 w8 ho9 hb hg_ hnew_; clear hg_ hnew_; (first | rw [← Ny277.out] at ho9 | (simp only [Int.reduceToNat] at ho9; rw [← Ny277.out] at ho9)); have HO279 := Aside0.mk (Kd.S_lower ho9 (below_size (below_at HB.out))); replace HB := Aside0.mk (below_step (below_at HB.out) hb); clear hb ho9))
  go_loopg [8, 26] kj3 (fun kq v8 v26 w' => ∃ (x8_2 : List (S83)) (x26_2 : Int), v26 = .int .i64 x26_2 ∧ Aside0 (impl_MadeStory.l0 kq a0 a1 x8_2 l2 (l2.length : Int) x26_2 = some (r1, r2)) ∧ Aside0 (kq ≤ kj3) ∧ Aside0 (Kd.S k83 83 w' w.heap.size (fun _ => True) v8 x8_2) ∧ Aside0 (Below w.heap.size w w'))
  case atStart => exact ⟨(y277), (0), (by first | rfl | (simp; done) | (simp [*]; done)), H', ⟨Nat.le_refl _⟩, ⟨Kd.S_below HO279.out lt_⟩, ⟨below_at HB.out⟩⟩
  clear H'
  try clear c2
  try clear p2
  try clear c5
  try clear c6
  try clear c7
  try clear p2
  obtain ⟨x8_2, x26_2, rfl, HA, HK2, HO_8, HB⟩ := hrel
  cases gk with
  | zero => exact absurd HA.out (by simp [impl_MadeStory.l0])
  | succ k2 =>
   have H := HA.out
   clear HA
   simp only [impl_MadeStory.l0] at H
   by_cases c10 : x26_2 < (l2.length : Int)
   rotate_left
   ·rw [if_neg c10] at H
    have c10b0 : decide (x26_2 < (l2.length : Int)) = false := decide_eq_false c10
    clear c10
    simp only [Option.some.injEq, Prod.mk.injEq] at H
    obtain ⟨rfl, rfl⟩ := H
    go_wp2
    go_ret2
    exact ⟨_, by first | rfl | (simp [errW_none, errW_some] <;> rfl) | (simp [*, errW_none, errW_some] <;> rfl), by (with_reducible repeat (first | apply Kd.S_alloc | apply Kd.S_drewN | apply Kd.S_drew)); exact HO_8.out, below_at HB.out⟩
   rw [if_pos c10] at H
   have c10b0 : decide (x26_2 < (l2.length : Int)) = true := decide_eq_true c10
   clear c10
   by_cases c11 : 0 ≤ x26_2
   rotate_left
   ·rw [if_neg c11] at H
    exact absurd H (by simp)
   rw [if_pos c11] at H
   have c11b0 : decide (0 ≤ x26_2) = true := decide_eq_true c11
   clear c11
   by_cases c12 : x26_2 < (l2.length : Int)
   rotate_left
   ·rw [if_neg c12] at H
    exact absurd H (by simp)
   rw [if_pos c12] at H
   have c12b0 : decide (x26_2 < (l2.length : Int)) = true := decide_eq_true c12
   clear c12
   replace H := Option.bind_eq_some_iff.mp H
   obtain ⟨⟨t281, t282, t285⟩, A130, H⟩ := H
   try dsimp only at H
   have A13 := Aside0.mk A130
   clear A130
   have HC14 := Aside0.mk H
   clear H
   have p280 : 0 ≤ (x26_2 : Int) := of_decide_eq_true (by assumption)
   have q280 : x26_2 < (l2.length : Int) := of_decide_eq_true (by assumption)
   obtain ⟨ad280, A280_0, c280_0, e280, hx280_0, hl280_0, hi280_0⟩ := at_L2 HR2.out x26_2 p280 q280
   cases e280
   replace hx280_0 := cel HB.out hx280_0
   have HR280_0 := Aside0.mk hi280_0
   have HC280_0 := Aside0.mk hl280_0
   clear hi280_0 hl280_0
   replace p280 := eq_true p280
   replace q280 := eq_true q280
   go_upto_region 8 with (first | ((with_reducible refine gate_callee (f := 103) rfl ?_); refine goesL_ (some 35) rfl rfl Try.func103 (by kernel_rfl) rfl #[.int .i64 a0, .int .i64 x26_2, .slice A280_0 (rd_L2 l2 x26_2).length c280_0] rfl (by (try simp only [List.map_toArray, List.map_cons, List.map_nil]); first | done | rfl | (simp only [List.length_drop, List.length_take]; rfl)) ?_; (with_reducible refine (impl_claimBy.calls k2 a0 x26_2 _ _ (rd_L2 l2 x26_2) t281 t282 t285 _ ?side1 ?side2 A13.out).mono ?_); (case side1 => exact Kd.C_below (Kd.C_below HR280_0.out HB.out) lt_); (case side2 => exact HC280_0.out); rintro e w15 ⟨v283, rfl, ho0, hb⟩; refine ⟨_, rfl, ?_⟩; replace HO_8 := Aside0.mk (Kd.S_elder' (Kd.S_below HO_8.out lt_) (Kd.R_base ho0) hb); have HO284 := Aside0.mk (Kd.R_lower ho0 (below_size (below_at HB.out))); replace HB := Aside0.mk (below_step (below_at HB.out) hb); (try clear hb); (try clear hb2); (try clear hk); (try clear hi); (try clear ho0)) | ((with_reducible refine gate_dst (N := 11) rfl ?_); (try (refine gate_guard (by rfl) ?_; dsimp only)); refine box_event ?hg (N := 11) ?hd (cs := #[.int .i64 0, .slice none 0 0]) (t := 83) ?hr ?_; (case hd => rfl); (case hg => rfl); (case hr => first | (go_simp; done) | (go_simp; rfl)); intro gb286 hg w16 hbox hb; replace HO_8 := Aside0.mk (Kd.S_below (Kd.S_elderB (Kd.S_below HO_8.out lt_) gb286 (Nat.le_of_eq hg.symm)) hb); replace HO284 := Aside0.mk (Kd.R_below (Kd.R_below HO284.out lt_) hb); have BK286 := Aside0.mk (hbox); have GW286 := Aside0.mk ((by rw [hg]; exact (below_size (below_at HB.out)) : w.heap.size ≤ gb286)); have GE286 := Aside0.mk ((by rw [hg]; exact (below_size (below_at HB.out)) : w.heap.size ≤ gb286)); replace HB := Aside0.mk (below_step (below_at HB.out) hb); clear hb hbox hg; have hcz17_0 := blk_cell BK286.out 0; have hcz17_1 := blk_cell BK286.out 1; have hfz17_0 := blk_frozen BK286.out 0; have hfz17_1 := blk_frozen BK286.out 1; obtain ⟨Ao18, co18, eo18⟩ := Kd.R_slice HO284.out; subst eo18))
   (try simp only [Act.put, z0_, z1_, z2_])
   go_cut [44] (fun v44 wc => ∃ (kq : Nat) (x44_13 : Bool), v44 = .bool x44_13 ∧ Aside0 (impl_MadeStory.j2 kq a0 a1 x8_2 t285 l2 (l2.length : Int) x26_2 x44_13 t281 t282 = some (r1, r2)) ∧ Aside0 (kq ≤ k2) ∧ Aside0 (Kd.S k83 83 wc w.heap.size (fun k_ => some k_ ≠ ((.slice Ao18 t282.length co18) : Value).ownBlock ∧ k_ ≠ gb286) u8 x8_2) ∧ Aside0 (Kd.R k81 81 wc w.heap.size (fun _ => True) (.slice Ao18 t282.length co18) t282) ∧ Aside0 (wc.heap[gb286]? = some (.cells #[.int .i64 t281, (.slice Ao18 t282.length co18)] 83 (0, 0))) ∧ Aside0 (Below w.heap.size w wc))
   case first =>
    have H := HC14.out
    clear HC14
    by_cases c19 : t285 = true
    rotate_left
    ·replace c19 := Bool.eq_false_iff.mpr c19
     subst c19
     rw [if_neg (show ¬ (false = true) by decide)] at H
     have H' := Aside0.mk H
     clear H
     go_wp2
     go_meet
     case rel => exact ⟨_, (false), (by first | rfl | (simp; done) | (simp [*]; done)), H', ⟨by have := HJ3.out; have := HK2.out; first | omega | exact Nat.le_refl _⟩, ⟨by (with_reducible repeat (first | apply Kd.S_alloc | apply Kd.S_drewN | apply Kd.S_drew)); exact Kd.S_mono (Kd.S_far (p := ⟨gb286, 1, none⟩) (Kd.S_far (p := ⟨gb286, 0, none⟩) (Kd.S_mono HO_8.out (fun k_ hk => (⟨hk, hk.2⟩ : _ ∧ k_ ≠ gb286))) (fun _ hk => hk.2) (.int .i64 t281)) (fun _ hk => hk.2) (.slice Ao18 t282.length co18)) (fun _ hk => ⟨hk.1.1.2, hk.1.2⟩)⟩, ⟨by (with_reducible repeat (first | apply Kd.R_alloc | apply Kd.R_drewN | apply Kd.R_drew)); exact Kd.R_mono (Kd.R_far (p := ⟨gb286, 1, none⟩) (Kd.R_far (p := ⟨gb286, 0, none⟩) (Kd.R_types HO284.out BK286.out (by decide)) (fun _ hk => hk.2) (.int .i64 t281)) (fun _ hk => hk.2) (.slice Ao18 t282.length co18)) (fun _ hk => trivial)⟩, ⟨by (with_reducible repeat (first | refine blk_drewN ?_ _ | refine blk_drew ?_ | refine blk_alloc ?_ _)); refine blk_put (cs := #[.int .i64 t281, .slice none 0 0]) ?_ 1 _ rfl; (with_reducible repeat (first | refine blk_drewN ?_ _ | refine blk_drew ?_ | refine blk_alloc ?_ _)); refine blk_put (cs := #[.int .i64 0, .slice none 0 0]) ?_ 0 _ rfl; (with_reducible repeat (first | refine blk_drewN ?_ _ | refine blk_drew ?_ | refine blk_alloc ?_ _)); exact BK286.out⟩, ⟨at_ HB.out⟩⟩
    subst c19
    rw [if_pos rfl] at H
    replace H := Option.bind_eq_some_iff.mp H
    obtain ⟨t287, A200, H⟩ := H
    try dsimp only at H
    have A20 := Aside0.mk A200
    clear A200
    have H' := Aside0.mk H
    clear H
    have hcz21_0 := blk_cell BK286.out 0
    have hcz21_1 := blk_cell BK286.out 1
    have hfz21_0 := blk_frozen BK286.out 0
    have hfz21_1 := blk_frozen BK286.out 1
    go_wp2_with (first | (go_at_call 104; (with_reducible refine (impl_maySay.calls k2 t281 _ _ t282 a1 t287 _ ?side1 ?side2 A20.out).mono ?_); (case side1 => refine (Kd.R_reads' (e := 81) (base := w.heap.size) (ok := fun k_ => True) (n := t282.length) (c := co18) ?_).2.2; exact (by (with_reducible repeat (first | apply Kd.R_alloc | apply Kd.R_drewN | apply Kd.R_drew)); exact (Kd.R_mono (Kd.R_far (p := ⟨gb286, 1, none⟩) (Kd.R_far (p := ⟨gb286, 0, none⟩) (Kd.R_types HO284.out BK286.out (by decide)) (fun _ hk => hk.2) (.int .i64 t281)) (fun _ hk => hk.2) (.slice Ao18 t282.length co18)) (fun _ h_ => h_.1)))); (case side2 => exact (Kd.R_reads' HO284.out).2.1); rintro e w22 ⟨rfl, hb⟩; replace HO_8 := Aside0.mk (Kd.S_below (by (with_reducible repeat (first | apply Kd.S_alloc | apply Kd.S_drewN | apply Kd.S_drew)); exact (Kd.S_mono (Kd.S_far (p := ⟨gb286, 1, none⟩) (Kd.S_far (p := ⟨gb286, 0, none⟩) (Kd.S_mono HO_8.out (fun k_ hk => (⟨hk, hk.2⟩ : _ ∧ k_ ≠ gb286))) (fun _ hk => hk.2) (.int .i64 t281)) (fun _ hk => hk.2) (.slice Ao18 t282.length co18)) (fun _ h_ => h_.1))) hb); replace HO284 := Aside0.mk (Kd.R_below (by (with_reducible repeat (first | apply Kd.R_alloc | apply Kd.R_drewN | apply Kd.R_drew)); exact (Kd.R_mono (Kd.R_far (p := ⟨gb286, 1, none⟩) (Kd.R_far (p := ⟨gb286, 0, none⟩) (Kd.R_types HO284.out BK286.out (by decide)) (fun _ hk => hk.2) (.int .i64 t281)) (fun _ hk => hk.2) (.slice Ao18 t282.length co18)) (fun _ h_ => h_.1))) hb); replace BK286 := Aside0.mk (blk_below (g := gb286) (o := .cells #[.int .i64 t281, .slice Ao18 t282.length co18] 83 (0, 0)) (by (with_reducible repeat (first | refine blk_drewN ?_ _ | refine blk_drew ?_ | refine blk_alloc ?_ _)); refine blk_put (cs := #[.int .i64 t281, .slice none 0 0]) ?_ 1 _ rfl; (with_reducible repeat (first | refine blk_drewN ?_ _ | refine blk_drew ?_ | refine blk_alloc ?_ _)); refine blk_put (cs := #[.int .i64 0, .slice none 0 0]) ?_ 0 _ rfl; (with_reducible repeat (first | refine blk_drewN ?_ _ | refine blk_drew ?_ | refine blk_alloc ?_ _)); exact BK286.out) hb); replace HB := Aside0.mk (below_step (at_ HB.out) hb); (try clear hb); (try clear hb2); (try clear hk); (try clear hi)))
    go_meet
    case rel => exact ⟨_, (!t287), (by first | rfl | (simp; done) | (simp [*]; done)), H', ⟨by have := HJ3.out; have := HK2.out; first | omega | exact Nat.le_refl _⟩, ⟨Kd.S_below (Kd.S_mono HO_8.out (fun _ hk => ⟨hk.1.2, hk.2⟩)) lt_⟩, ⟨Kd.R_below HO284.out lt_⟩, ⟨by (with_reducible repeat (first | refine blk_drewN ?_ _ | refine blk_drew ?_ | refine blk_alloc ?_ _)); exact BK286.out⟩, ⟨at_ HB.out⟩⟩
   clear HC14
   try clear c1
   try clear c2
   try clear p2
   try clear q2
   try clear hx2
   try clear c5
   try clear c6
   try clear c7
   try clear c10
   try clear c10b0
   try clear c11
   try clear c11b0
   try clear c12
   try clear c12b0
   try clear c19
   try clear hcz17_0
   try clear hcz17_1
   try clear hcz21_0
   try clear hcz21_1
   try clear hfz17_0
   try clear hfz17_1
   try clear hfz21_0
   try clear hfz21_1
   try clear hx280_0
   try clear p2
   try clear p280
   try clear q280
   obtain ⟨kq, x44_13, rfl, HA, HJ13, HO_8, HO_287001, BK286, HB⟩ := hcut
   cases kq with
   | zero => exact absurd HA.out (by simp [impl_MadeStory.j2])
   | succ kj13 =>
    have H := HA.out
    clear HA
    simp only [impl_MadeStory.j2] at H
    by_cases c23 : x44_13 = true
    rotate_left
    ·replace c23 := Bool.eq_false_iff.mpr c23
     subst c23
     rw [if_neg (show ¬ (false = true) by decide)] at H
     by_cases c38 : t285 = true
     rotate_left
     ·replace c38 := Bool.eq_false_iff.mpr c38
      subst c38
      rw [if_neg (show ¬ (false = true) by decide)] at H
      simp only [Option.some.injEq, Prod.mk.injEq] at H
      obtain ⟨rfl, rfl⟩ := H
      go_wp2
      go_ret2
      exact ⟨_, by first | rfl | (simp [errW_none, errW_some] <;> rfl) | (simp [*, errW_none, errW_some] <;> rfl), by first | exact Kd.S_nil _ _ _ _ _ | exact Kd.N_nil _ _ _ _ _ | exact Kd.V_nil _ _ _ _ _ | exact Kd.Q_nil _ _ _ _ _ | exact Kd.R_nil _ _ _ _ _, at_ HB.out⟩
     subst c38
     rw [if_pos rfl] at H
     by_cases c39 : x8_2.length < 4398046511104
     rotate_left
     ·rw [if_neg c39] at H
      exact absurd H (by simp)
     rw [if_pos c39] at H
     have LMc39 := Aside0.mk c39
     clear c39
     obtain ⟨y296, hy296⟩ : ∃ y_ : List (S83), y_ = (x8_2 ++ [(⟨t281, t282⟩ : S83)]) := ⟨_, rfl⟩
     replace H : (impl_MadeStory.l0 kj13 a0 a1 y296 l2 (l2.length : Int) (wrap64 (x26_2 + 1))) = some (r1, r2) := by first | (rw [hy296]; exact H) | exact H
     have Ny296 := Aside0.mk hy296
     clear hy296
     have H' := Aside0.mk H
     clear H
     have hcz40_0 : wc.cell? ⟨gb286, 0, none⟩ = some (.int .i64 t281) := (blk_cell BK286.out 0).trans rfl
     have hcz40_1 : wc.cell? ⟨gb286, 1, none⟩ = some (.slice Ao18 t282.length co18) := (blk_cell BK286.out 1).trans rfl
     have hfz40_0 := blk_frozen BK286.out 0
     have hfz40_1 := blk_frozen BK286.out 1
     go_wp2_with (first | ((with_reducible refine gate_builtin (b := .append) (xs := #[.tmp 53, .tmp 55]) rfl ?_); (try (refine gate_guard (by rfl) ?_; dsimp only)); at_builtin; refine Kd.S_append k83 (w0 := w) w.heap.size rfl (.tmp 53) (.tmp 55) 35 83 (.agg #[(.int .i64 0), (.slice none 0 0)]) 32 rfl Try.underlying35 info83 rfl (by decide) (by omega) u8 x8_2 (⟨t281, t282⟩ : S83) [.int .i64 t281, .slice Ao18 t282.length co18] (fun k_ => k_ ≠ gb286) (fun k_ => some k_ = (.slice Ao18 t282.length co18 : Value).ownBlock) rfl rfl ?aP (fun k_ hk_ => ((Kd.R_mono (ok' := fun k_ => ((fun k_ => k_ ≠ gb286)) k_ ∧ some k_ ≠ (u8 : Value).ownBlock) (Kd.R_types (Kd.R_apart' (HO_287001.out) (Kd.S_typed HO_8.out) (by decide)) BK286.out (by decide)) (fun k_ hk => ⟨hk.2, hk.1.2⟩))).1 k_ hk_.symm) ?aF ?aO ?aB ?aS ?aL ?_; (case aP => exact k83_mkM _ _ _ (⟨t281, t282⟩ : S83) (Kd.R_mono (Kd.R_tight rfl (Kd.R_mono (ok' := fun k_ => ((fun k_ => k_ ≠ gb286)) k_ ∧ some k_ ≠ (u8 : Value).ownBlock) (Kd.R_types (Kd.R_apart' (HO_287001.out) (Kd.S_typed HO_8.out) (by decide)) BK286.out (by decide)) (fun k_ hk => ⟨hk.2, hk.1.2⟩))) (fun _ h_ => h_))); (case aB => exact (at_ HB.out)); (case aF => exact (fun k_ hk => Kd.freshB (g := gb286) (o := .cells #[.int .i64 t281, .slice Ao18 t282.length co18] 83 (0, 0)) (by (with_reducible repeat (first | refine blk_drewN ?_ _ | refine blk_drew ?_ | refine blk_alloc ?_ _)); exact BK286.out) k_ hk)); (case aO => exact (Kd.S_below (Kd.S_mono HO_8.out (fun k_ hk => ⟨hk.2, fun e_ => hk.1 e_⟩)) lt_)); (case aS => exact (below_size (at_ HB.out))); (case aL => have := LMc39.out; omega); intro v297 w41 ho hb hg hat; rw [← Ny296.out] at ho; replace HB := Aside0.mk (hb); have HO298 := Aside0.mk (ho); (try clear BK286 HO_8 HO_287001); clear ho hb hg hat))
     go_roundg kj13
     case measure => have := HJ3.out; have := HK2.out; have := HJ13.out; omega
     case rel => exact ⟨(y296), (wrap64 (x26_2 + 1)), (by first | rfl | (simp; done) | (simp [*]; done)), H', ⟨by have := HJ3.out; have := HK2.out; have := HJ13.out; omega⟩, ⟨Kd.S_below (Kd.S_mono HO298.out (fun _ hk => trivial)) lt_⟩, ⟨at_ HB.out⟩⟩
    subst c23
    rw [if_pos rfl] at H
    replace H := Option.bind_eq_some_iff.mp H
    obtain ⟨⟨t288, t289, t292⟩, A240, H⟩ := H
    try dsimp only at H
    have A24 := Aside0.mk A240
    clear A240
    by_cases c25 : t292 = true
    rotate_left
    ·replace c25 := Bool.eq_false_iff.mpr c25
     subst c25
     rw [if_neg (show ¬ (false = true) by decide)] at H
     simp only [Option.some.injEq, Prod.mk.injEq] at H
     obtain ⟨rfl, rfl⟩ := H
     have hcz34_0 : wc.cell? ⟨gb286, 0, none⟩ = some (.int .i64 t281) := (blk_cell BK286.out 0).trans rfl
     have hcz34_1 : wc.cell? ⟨gb286, 1, none⟩ = some (.slice Ao18 t282.length co18) := (blk_cell BK286.out 1).trans rfl
     have hfz34_0 := blk_frozen BK286.out 0
     have hfz34_1 := blk_frozen BK286.out 1
     go_wp2_with (first | ((with_reducible refine gate_callee (f := 105) rfl ?_); refine goesL_ (some 48) rfl rfl Try.func105 (by kernel_rfl) rfl #[.int .i64 a0, .agg #[.int .i64 t281, .slice Ao18 t282.length co18]] rfl (by (try simp only [List.map_toArray, List.map_cons, List.map_nil]); first | done | rfl | (simp only [List.length_drop, List.length_take]; rfl)) ?_; (with_reducible refine (impl_DenyClaim.calls kj13 a0 t281 _ _ t282 t288 t289 false _ ?side1 ?side2 A24.out).mono ?_); (case side1 => exact Kd.C_below (Kd.R_reads' HO_287001.out).2.2 lt_); (case side2 => exact (Kd.R_reads' HO_287001.out).2.1); rintro e w35 ⟨v290, rfl, ho0, hb⟩; refine ⟨_, rfl, ?_⟩; have HO291 := Aside0.mk (Kd.R_lower (Kd.R_new' ho0 (Kd.R_lt (Kd.R_below HO_287001.out lt_))) (below_size (at_ HB.out))); replace BK286 := Aside0.mk (blk_at BK286.out hb); replace HB := Aside0.mk (below_step (at_ HB.out) hb); (try clear HO_8 HO_287001); (try clear hb); (try clear hb2); (try clear hk); (try clear hi); (try clear ho0); have hcz36_0 := blk_cell BK286.out 0; have hcz36_1 := blk_cell BK286.out 1; have hfz36_0 := blk_frozen BK286.out 0; have hfz36_1 := blk_frozen BK286.out 1; obtain ⟨Ao37, co37, eo37⟩ := Kd.R_slice HO291.out; subst eo37))
     go_ret2
     exact ⟨_, by first | rfl | (simp [errW_none, errW_some] <;> rfl) | (simp [*, errW_none, errW_some] <;> rfl), by first | exact Kd.S_nil _ _ _ _ _ | exact Kd.N_nil _ _ _ _ _ | exact Kd.V_nil _ _ _ _ _ | exact Kd.Q_nil _ _ _ _ _ | exact Kd.R_nil _ _ _ _ _, at_ HB.out⟩
    subst c25
    rw [if_pos rfl] at H
    by_cases c26 : x8_2.length < 4398046511104
    rotate_left
    ·rw [if_neg c26] at H
     exact absurd H (by simp)
    rw [if_pos c26] at H
    have LMc26 := Aside0.mk c26
    clear c26
    obtain ⟨y293, hy293⟩ : ∃ y_ : List (S83), y_ = (x8_2 ++ [(⟨t288, t289⟩ : S83)]) := ⟨_, rfl⟩
    replace H : (impl_MadeStory.l0 kj13 a0 a1 y293 l2 (l2.length : Int) (wrap64 (x26_2 + 1))) = some (r1, r2) := by first | (rw [hy293]; exact H) | exact H
    have Ny293 := Aside0.mk hy293
    clear hy293
    have H' := Aside0.mk H
    clear H
    have hcz27_0 : wc.cell? ⟨gb286, 0, none⟩ = some (.int .i64 t281) := (blk_cell BK286.out 0).trans rfl
    have hcz27_1 : wc.cell? ⟨gb286, 1, none⟩ = some (.slice Ao18 t282.length co18) := (blk_cell BK286.out 1).trans rfl
    have hfz27_0 := blk_frozen BK286.out 0
    have hfz27_1 := blk_frozen BK286.out 1
    go_wp2_with (first | ((with_reducible refine gate_callee (f := 105) rfl ?_); refine goesL_ (some 48) rfl rfl Try.func105 (by kernel_rfl) rfl #[.int .i64 a0, .agg #[.int .i64 t281, .slice Ao18 t282.length co18]] rfl (by (try simp only [List.map_toArray, List.map_cons, List.map_nil]); first | done | rfl | (simp only [List.length_drop, List.length_take]; rfl)) ?_; (with_reducible refine (impl_DenyClaim.calls kj13 a0 t281 _ _ t282 t288 t289 true _ ?side1 ?side2 A24.out).mono ?_); (case side1 => exact Kd.C_below (Kd.R_reads' HO_287001.out).2.2 lt_); (case side2 => exact (Kd.R_reads' HO_287001.out).2.1); rintro e w28 ⟨v290, rfl, ho0, hb⟩; refine ⟨_, rfl, ?_⟩; replace HO_8 := Aside0.mk (Kd.S_elder' (Kd.S_below HO_8.out lt_) (Kd.R_base ho0) hb); have HO291 := Aside0.mk (Kd.R_lower (Kd.R_new' ho0 (Kd.R_lt (Kd.R_below HO_287001.out lt_))) (below_size (at_ HB.out))); replace HO_287001 := Aside0.mk (Kd.R_elder' (Kd.R_below HO_287001.out lt_) (Kd.R_base ho0) hb); replace BK286 := Aside0.mk (blk_at BK286.out hb); replace HB := Aside0.mk (below_step (at_ HB.out) hb); (try clear hb); (try clear hb2); (try clear hk); (try clear hi); (try clear ho0); have hcz29_0 := blk_cell BK286.out 0; have hcz29_1 := blk_cell BK286.out 1; have hfz29_0 := blk_frozen BK286.out 0; have hfz29_1 := blk_frozen BK286.out 1; obtain ⟨Ao30, co30, eo30⟩ := Kd.R_slice HO291.out; subst eo30) | ((with_reducible refine gate_store (t := 83) (p := 11) rfl ?_); refine store_event (t := 83) (p := 11) (v := ?vo_w31) (w1 := ((w28.setCell ⟨gb286, 0, none⟩ (.int .i64 t288)).setCell ⟨gb286, 1, none⟩ (.slice Ao30 t289.length co30))) ?hg ?ho ?hn ?hr ?_; (case ho => rfl); (case hg => rfl); (case hn => rfl); (case hr => first | (go_simp; done) | (go_simp; rfl)); intro w31 hw; have n0_ : Aside0 (Kd.S k83 83 w31 w.heap.size (fun k_ => some k_ ≠ (.slice Ao18 t282.length co18 : Value).ownBlock ∧ some k_ ≠ (.slice Ao30 t289.length co30 : Value).ownBlock ∧ k_ ≠ gb286) u8 x8_2) := ⟨(by rw [hw]; exact (by (with_reducible repeat (first | apply Kd.S_alloc | apply Kd.S_drewN | apply Kd.S_drew)); exact Kd.S_mono (Kd.S_far (p := ⟨gb286, 1, none⟩) (Kd.S_far (p := ⟨gb286, 0, none⟩) (Kd.S_mono HO_8.out (fun k_ hk => (⟨hk, hk.1.2⟩ : _ ∧ k_ ≠ gb286))) (fun _ hk => hk.2) (.int .i64 t288)) (fun _ hk => hk.2) (.slice Ao30 t289.length co30)) (fun _ hk => ⟨hk.1.1.1, ⟨hk.1.2, hk.1.1.2⟩⟩)))⟩; have n1_ : Aside0 (Kd.R k81 81 w31 w.heap.size (fun k_ => some k_ ≠ (.slice Ao30 t289.length co30 : Value).ownBlock) (.slice Ao18 t282.length co18) t282) := ⟨(by rw [hw]; exact (by (with_reducible repeat (first | apply Kd.R_alloc | apply Kd.R_drewN | apply Kd.R_drew)); exact Kd.R_mono (Kd.R_far (p := ⟨gb286, 1, none⟩) (Kd.R_far (p := ⟨gb286, 0, none⟩) (Kd.R_types HO_287001.out BK286.out (by decide)) (fun _ hk => hk.2) (.int .i64 t288)) (fun _ hk => hk.2) (.slice Ao30 t289.length co30)) (fun _ hk => hk.1.2)))⟩; have n2_ : Aside0 (Kd.R k81 81 w31 w.heap.size (fun k_ => some k_ ≠ (.slice Ao18 t282.length co18 : Value).ownBlock) (.slice Ao30 t289.length co30) t289) := ⟨(by rw [hw]; exact (by (with_reducible repeat (first | apply Kd.R_alloc | apply Kd.R_drewN | apply Kd.R_drew)); exact Kd.R_mono (Kd.R_far (p := ⟨gb286, 1, none⟩) (Kd.R_far (p := ⟨gb286, 0, none⟩) (Kd.R_types HO291.out BK286.out (by decide)) (fun _ hk => hk.2) (.int .i64 t288)) (fun _ hk => hk.2) (.slice Ao30 t289.length co30)) (fun _ hk => hk.1.2)))⟩; have n3_ : Aside0 (w31.heap[gb286]? = some (.cells #[.int .i64 t288, .slice Ao30 t289.length co30] 83 (0, 0))) := ⟨(by rw [hw]; exact (by (with_reducible repeat (first | refine blk_drewN ?_ _ | refine blk_drew ?_ | refine blk_alloc ?_ _)); refine blk_put (cs := #[.int .i64 t288, .slice Ao18 t282.length co18]) ?_ 1 _ rfl; (with_reducible repeat (first | refine blk_drewN ?_ _ | refine blk_drew ?_ | refine blk_alloc ?_ _)); refine blk_put (cs := #[.int .i64 t281, .slice Ao18 t282.length co18]) ?_ 0 _ rfl; (with_reducible repeat (first | refine blk_drewN ?_ _ | refine blk_drew ?_ | refine blk_alloc ?_ _)); exact BK286.out))⟩; have n4_ : Aside0 (Below w.heap.size w w31) := ⟨(by rw [hw]; exact (at_ HB.out))⟩; clear hw; clear HO_8; clear HO_287001; clear HO291; clear BK286; clear HB; have HO_8 := n0_; have HO_287001 := n1_; have HO291 := n2_; have BK286 := n3_; have HB := n4_; clear n0_ n1_ n2_ n3_ n4_; have hcz32_0 := blk_cell BK286.out 0; have hcz32_1 := blk_cell BK286.out 1; have hfz32_0 := blk_frozen BK286.out 0; have hfz32_1 := blk_frozen BK286.out 1) | ((with_reducible refine gate_builtin (b := .append) (xs := #[.tmp 53, .tmp 55]) rfl ?_); (try (refine gate_guard (by rfl) ?_; dsimp only)); at_builtin; refine Kd.S_append k83 (w0 := w) w.heap.size rfl (.tmp 53) (.tmp 55) 35 83 (.agg #[(.int .i64 0), (.slice none 0 0)]) 32 rfl Try.underlying35 info83 rfl (by decide) (by omega) u8 x8_2 (⟨t288, t289⟩ : S83) [.int .i64 t288, .slice Ao30 t289.length co30] (fun k_ => some k_ ≠ (.slice Ao18 t282.length co18 : Value).ownBlock ∧ k_ ≠ gb286) (fun k_ => some k_ = (.slice Ao30 t289.length co30 : Value).ownBlock) rfl rfl ?aP (fun k_ hk_ => ((Kd.R_mono (ok' := fun k_ => ((fun k_ => some k_ ≠ (.slice Ao18 t282.length co18 : Value).ownBlock ∧ k_ ≠ gb286)) k_ ∧ some k_ ≠ (u8 : Value).ownBlock) (Kd.R_types (Kd.R_apart' (HO291.out) (Kd.S_typed HO_8.out) (by decide)) BK286.out (by decide)) (fun k_ hk => ⟨⟨hk.1.1, hk.2⟩, hk.1.2⟩))).1 k_ hk_.symm) ?aF ?aO ?aB ?aS ?aL ?_; (case aP => exact k83_mkM _ _ _ (⟨t288, t289⟩ : S83) (Kd.R_mono (Kd.R_tight rfl (Kd.R_mono (ok' := fun k_ => ((fun k_ => some k_ ≠ (.slice Ao18 t282.length co18 : Value).ownBlock ∧ k_ ≠ gb286)) k_ ∧ some k_ ≠ (u8 : Value).ownBlock) (Kd.R_types (Kd.R_apart' (HO291.out) (Kd.S_typed HO_8.out) (by decide)) BK286.out (by decide)) (fun k_ hk => ⟨⟨hk.1.1, hk.2⟩, hk.1.2⟩))) (fun _ h_ => h_))); (case aB => exact (at_ HB.out)); (case aF => exact (fun k_ hk => ⟨Kd.fresh' (Kd.R_lt (Kd.R_below HO_287001.out lt_)) k_ hk, Kd.freshB (g := gb286) (o := .cells #[.int .i64 t288, .slice Ao30 t289.length co30] 83 (0, 0)) (by (with_reducible repeat (first | refine blk_drewN ?_ _ | refine blk_drew ?_ | refine blk_alloc ?_ _)); exact BK286.out) k_ hk⟩)); (case aO => exact (Kd.S_below (Kd.S_mono HO_8.out (fun k_ hk => ⟨⟨hk.1, hk.2.2⟩, fun e_ => hk.2.1 e_⟩)) lt_)); (case aS => exact (below_size (at_ HB.out))); (case aL => have := LMc26.out; omega); intro v294 w33 ho hb hg hat; rw [← Ny293.out] at ho; replace HB := Aside0.mk (hb); have HO295 := Aside0.mk (ho); (try clear HO_287001 BK286 HO_8 HO291); clear ho hb hg hat))
    go_roundg kj13
    case measure => have := HJ3.out; have := HK2.out; have := HJ13.out; omega
    case rel => exact ⟨(y293), (wrap64 (x26_2 + 1)), (by first | rfl | (simp; done) | (simp [*]; done)), H', ⟨by have := HJ3.out; have := HK2.out; have := HJ13.out; omega⟩, ⟨Kd.S_below (Kd.S_mono HO295.out (fun _ hk => trivial)) lt_⟩, ⟨at_ HB.out⟩⟩

end Go.Proofs.Ytbhmippoeimliaa.P

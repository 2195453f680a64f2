/- Go's functions come to just the answers of the Lean functions told here. -/
import Derived.Test.YtcaogllnbpmcgaaPx8
import Derived.Test.YtcaogllnbpmcgaaPx17
import Derived.Test.YtcaogllnbpmcgaaPx19
import Derived.Test.YtcaogllnbpmcgaaPx21
import Derived.Test.YtcaogllnbpmcgaaPx22
namespace Go.Proofs.Ytcaogllnbpmcgaa.P
open Go.RowKit Go.Proofs.YtcaogllnbpmcgaaW.PrintWords Go.Proofs.YtcaogllnbpmcgaaW.PrintLast Go.Proofs.YtcaogllnbpmcgaaW.PrintMore
attribute [local go_sem] max2_int min2_int max_two min_two max_three min_three max_four min_four
set_option linter.unusedVariables false
set_option linter.unusedSimpArgs false

/-! ### laws_FnFindProof: function 10 -/
noncomputable def laws_FnFindProof.j0 : Nat → Int → List (S38) → List (S47) → Bool → Bool → Int → List (S93) → Option (Bool)
 | 0, _, _, _, _, _, _, _ => none
 | k + 1, x3, x4, x5, x7, x41, x372000, x372001 => if x41 = true then (some false) else (if x7 = true then ((impl_FollowsFrom.f k x3 x4 x5).bind fun t379 => (if t379 = true then ((impl_ProofOk.f x3 x4 x5 x372000 x372001).bind fun t380 => (some t380)) else (some false))) else (if x372000 = 0 then (if (x372001.length : Int) = 0 then ((impl_FollowsFrom.f k x3 x4 x5).bind fun t381 => (if t381 = true then (some false) else ((laws_alive.f).bind fun t382 => (some t382)))) else (some false)) else (some false)))
noncomputable def laws_FnFindProof.f (k : Nat) (l0 : List Int) : Option (Bool) := if (l0.length : Int) > 1048576 then (some true) else ((spec_DrawFindProof.f k l0).bind fun bt359 => ((impl_FindProof.f bt359.1 bt359.2.1 bt359.2.2).bind fun bt366 => ((spec_FindProof.f k bt359.1 bt359.2.1 bt359.2.2).bind fun bt372 => ((laws_sameProof.f k bt366.1 bt366.2.1 bt372.1 bt372.2.1).bind fun t378 => (if t378 = true then (laws_FnFindProof.j0 k bt359.1 bt359.2.1 bt359.2.2 bt366.2.2 (bt366.2.2 != bt372.2.2) bt366.1 bt366.2.1) else (laws_FnFindProof.j0 k bt359.1 bt359.2.1 bt359.2.2 bt366.2.2 true bt366.1 bt366.2.1))))))
theorem laws_FnFindProof.mono_l : ∀ k, (∀ y0 y1 y2 y3 y4 y5 y6, LeO (laws_FnFindProof.j0 k y0 y1 y2 y3 y4 y5 y6) (laws_FnFindProof.j0 (k + 1) y0 y1 y2 y3 y4 y5 y6))
 | 0 => fun _ _ _ _ _ _ _ r h => by simp [laws_FnFindProof.j0] at h
 | k + 1 => by
  have ih0 := laws_FnFindProof.mono_l k
  ·intro y0 y1 y2 y3 y4 y5 y6
   unfold laws_FnFindProof.j0
   repeat' first
   | (with_reducible exact ih0 _ _ _ _ _ _ _)
   | (with_reducible exact impl_FollowsFrom.mono _ _ _ _)
   | (with_reducible exact laws_sameProof.mono _ _ _ _ _)
   | (with_reducible exact spec_DrawFindProof.mono _ _)
   | (with_reducible exact spec_FindProof.mono _ _ _ _)
   | (with_reducible exact LeO.refl _)
   | (with_reducible exact LeO.none _)
   | (with_reducible refine LeO.ite ?_ ?_)
   | (with_reducible refine LeO.bind ?_ (fun _ => ?_))
theorem laws_FnFindProof.mono : ∀ a0 k, LeO (laws_FnFindProof.f k a0) (laws_FnFindProof.f (k + 1) a0) := by
 intro a0 k
 have ih0 := laws_FnFindProof.mono_l k
 unfold laws_FnFindProof.f
 repeat' first
   | (with_reducible exact ih0 _ _ _ _ _ _ _)
   | (with_reducible exact impl_FollowsFrom.mono _ _ _ _)
   | (with_reducible exact laws_sameProof.mono _ _ _ _ _)
   | (with_reducible exact spec_DrawFindProof.mono _ _)
   | (with_reducible exact spec_FindProof.mono _ _ _ _)
   | (with_reducible exact LeO.refl _)
   | (with_reducible exact LeO.none _)
   | (with_reducible refine LeO.ite ?_ ?_)
   | (with_reducible refine LeO.bind ?_ (fun _ => ?_))
set_option maxHeartbeats 8000000 in
set_option maxRecDepth 100000 in
theorem laws_FnFindProof.calls (k : Nat) (A0 : Option Addr) (c0 : Nat) (l0 : List Int) (r : Bool) (w : World) (hr0 : Kd.C (Kd.int .u8) w A0 l0.length l0) (hc0 : l0.length ≤ c0) (h : laws_FnFindProof.f k l0 = some r) :
  Calls Try.prog 10 #[.slice A0 l0.length c0] w fun e w' => e = .returned (.bool r) ∧ Below w.heap.size w w' := by
 have hu51 := Try.underlying51
 have HR0 := mk_ hr0
 have HC0 := mk_ hc0
 clear hr0 hc0
 have HB := mk_ (Below.refl w.heap.size w)
 unfold laws_FnFindProof.f at h
 have H := h
 clear h
 by_cases c2 : (l0.length : Int) > 1048576
 ·rw [if_pos c2] at H
  have c2b0 : decide (1048576 < (l0.length : Int)) = true := decide_eq_true c2
  have c2b1 : decide (1048576 < l0.length) = true := decide_eq_true (by omega)
  clear c2
  obtain rfl := Option.some.inj H
  go_enter Try.func10, Try.ntmps10
  go_wp2
  go_ret
  exact ⟨er_, below_at HB.out⟩
 rw [if_neg c2] at H
 have c2b0 : decide (1048576 < (l0.length : Int)) = false := decide_eq_false c2
 have c2b1 : decide (1048576 < l0.length) = false := decide_eq_false (by omega)
 clear c2
 replace H := Option.bind_eq_some_iff.mp H
 obtain ⟨⟨t359, t360, t361⟩, A30, H⟩ := H
 try dsimp only at H
 have A3 := mk_ A30
 clear A30
 replace H := Option.bind_eq_some_iff.mp H
 obtain ⟨⟨t366, t367, t370⟩, A40, H⟩ := H
 try dsimp only at H
 have A4 := mk_ A40
 clear A40
 replace H := Option.bind_eq_some_iff.mp H
 obtain ⟨⟨t372, t373, t376⟩, A50, H⟩ := H
 try dsimp only at H
 have A5 := mk_ A50
 clear A50
 have HC6 := mk_ H
 clear H
 go_enter Try.func10, Try.ntmps10
 go_upto_region 6 with (first | ((with_reducible refine gate_callee (f := 26) rfl ?_); refine goesL_ (some 15) rfl rfl Try.func26 (by kernel_rfl) rfl #[.slice A0 l0.length c0] rfl gl_ ?_; (with_reducible refine (spec_DrawFindProof.calls k _ _ l0 t359 t360 t361 _ ?side1 ?side2 A3.out).mono ?_); (case side1 => exact Kd.C_below HR0.out lt_); (case side2 => exact HC0.out); rintro e w7 ⟨v362, v364, rfl, ho0, ho1, hb⟩; refine ⟨_, rfl, ?_⟩; have HO363 := mk_ (Kd.S_lower ho0 (below_size (below_at HB.out))); have HO365 := mk_ (Kd.R_lower ho1 (below_size (below_at HB.out))); replace HB := mk_ (below_step (below_at HB.out) hb); (try clear hb); (try clear hb2); (try clear hk); (try clear hi); (try clear ho0); (try clear ho1); obtain ⟨Ao8, co8, eo8⟩ := Kd.S_slice HO363.out; subst eo8; obtain ⟨Ao9, co9, eo9⟩ := Kd.R_slice HO365.out; subst eo9) | ((with_reducible refine gate_callee (f := 29) rfl ?_); refine goesL_ (some 23) rfl rfl Try.func29 (by kernel_rfl) rfl #[.int .i64 t359, .slice Ao8 t360.length co8, .slice Ao9 t361.length co9] rfl gl_ ?_; (with_reducible refine (impl_FindProof.calls t359 _ _ t360 _ _ t361 t366 t367 t370 _ ?side1 ?side2 ?side3 ?side4 A4.out).mono ?_); (case side1 => exact Kd.C_below (Kd.S_reads' HO363.out).2.2 lt_); (case side2 => exact (Kd.S_reads' HO363.out).2.1); (case side3 => exact Kd.C_below (Kd.R_reads' HO365.out).2.2 lt_); (case side4 => exact (Kd.R_reads' HO365.out).2.1); rintro e w10 ⟨v368, rfl, ho0, hb⟩; refine ⟨_, rfl, ?_⟩; replace HO363 := mk_ (Kd.S_below (Kd.S_below HO363.out lt_) hb); replace HO365 := mk_ (Kd.R_below (Kd.R_below HO365.out lt_) hb); have HO369 := mk_ (Kd.R_lower ho0 (below_size (below_at HB.out))); replace HB := mk_ (below_step (below_at HB.out) hb); (try clear hb); (try clear hb2); (try clear hk); (try clear hi); (try clear ho0)) | ((with_reducible refine gate_dst (N := 6) rfl ?_); (try (refine gate_guard (by rfl) ?_; dsimp only)); refine box_event ?hg (N := 6) ?hd (cs := #[.int .i64 0, .slice none 0 0]) (t := 51) ?hr ?_; (case hd => rfl); (case hg => rfl); (case hr => first | (go_simp; done) | (go_simp; rfl)); intro gb371 hg w11 hbox hb; replace HO363 := mk_ (Kd.S_below (Kd.S_below HO363.out lt_) hb); replace HO365 := mk_ (Kd.R_below (Kd.R_below HO365.out lt_) hb); replace HO369 := mk_ (Kd.R_below (Kd.R_below HO369.out lt_) hb); have BK371 := mk_ (hbox); have GW371 := mk_ (gb_ hg HB.out); have GE371 := mk_ (gb_ hg HB.out); replace HB := mk_ (below_step (below_at HB.out) hb); clear hb hbox hg; have hcz12_0 := blk_cell BK371.out 0; have hcz12_1 := blk_cell BK371.out 1; have hfz12_0 := blk_frozen BK371.out 0; have hfz12_1 := blk_frozen BK371.out 1; obtain ⟨Ao13, co13, eo13⟩ := Kd.R_slice HO369.out; subst eo13) | ((with_reducible refine gate_callee (f := 38) rfl ?_); refine goesL_ (some 30) rfl rfl Try.func38 (by kernel_rfl) rfl #[.int .i64 t359, .slice Ao8 t360.length co8, .slice Ao9 t361.length co9] rfl gl_ ?_; (with_reducible refine (spec_FindProof.calls k t359 _ _ t360 _ _ t361 t372 t373 t376 _ ?side1 ?side2 ?side3 ?side4 A5.out).mono ?_); (case side1 => refine (Kd.S_reads' (e := 38) (base := w.heap.size) (ok := fun k_ => some k_ ≠ (.slice Ao9 t361.length co9 : Value).ownBlock) (n := t360.length) (c := co8) ?_).2.2; exact (by (with_reducible repeat (first | apply Kd.S_alloc | apply Kd.S_drewN | apply Kd.S_drew)); exact (Kd.S_mono (Kd.S_far (p := ⟨gb371, 1, none⟩) (Kd.S_far (p := ⟨gb371, 0, none⟩) (Kd.S_types HO363.out BK371.out (by decide)) (fun _ hk => hk.2) (.int .i64 t366)) (fun _ hk => hk.2) (.slice Ao13 t367.length co13)) (fun _ h_ => h_.1)))); (case side2 => exact (Kd.S_reads' HO363.out).2.1); (case side3 => refine (Kd.R_reads' (e := 47) (base := w.heap.size) (ok := fun k_ => True) (n := t361.length) (c := co9) ?_).2.2; exact (by (with_reducible repeat (first | apply Kd.R_alloc | apply Kd.R_drewN | apply Kd.R_drew)); exact (Kd.R_mono (Kd.R_far (p := ⟨gb371, 1, none⟩) (Kd.R_far (p := ⟨gb371, 0, none⟩) (Kd.R_types HO365.out BK371.out (by decide)) (fun _ hk => hk.2) (.int .i64 t366)) (fun _ hk => hk.2) (.slice Ao13 t367.length co13)) (fun _ h_ => h_.1)))); (case side4 => exact (Kd.R_reads' HO365.out).2.1); rintro e w14 ⟨v374, rfl, ho0, hb⟩; refine ⟨_, rfl, ?_⟩; replace HO363 := mk_ (Kd.S_below (by (with_reducible repeat (first | apply Kd.S_alloc | apply Kd.S_drewN | apply Kd.S_drew)); exact (Kd.S_mono (Kd.S_far (p := ⟨gb371, 1, none⟩) (Kd.S_far (p := ⟨gb371, 0, none⟩) (Kd.S_types HO363.out BK371.out (by decide)) (fun _ hk => hk.2) (.int .i64 t366)) (fun _ hk => hk.2) (.slice Ao13 t367.length co13)) (fun _ h_ => h_.1))) hb); replace HO365 := mk_ (Kd.R_below (by (with_reducible repeat (first | apply Kd.R_alloc | apply Kd.R_drewN | apply Kd.R_drew)); exact (Kd.R_mono (Kd.R_far (p := ⟨gb371, 1, none⟩) (Kd.R_far (p := ⟨gb371, 0, none⟩) (Kd.R_types HO365.out BK371.out (by decide)) (fun _ hk => hk.2) (.int .i64 t366)) (fun _ hk => hk.2) (.slice Ao13 t367.length co13)) (fun _ h_ => h_.1))) hb); have HO375 := mk_ (Kd.R_lower (Kd.R_new' ho0 (Kd.R_lt (by (with_reducible repeat (first | apply Kd.R_alloc | apply Kd.R_drewN | apply Kd.R_drew)); exact (Kd.R_mono (Kd.R_far (p := ⟨gb371, 1, none⟩) (Kd.R_far (p := ⟨gb371, 0, none⟩) (Kd.R_types HO369.out BK371.out (by decide)) (fun _ hk => hk.2) (.int .i64 t366)) (fun _ hk => hk.2) (.slice Ao13 t367.length co13)) (fun _ h_ => h_.1))))) (below_size (at_ HB.out))); replace HO369 := mk_ (Kd.R_elder' (by (with_reducible repeat (first | apply Kd.R_alloc | apply Kd.R_drewN | apply Kd.R_drew)); exact (Kd.R_mono (Kd.R_far (p := ⟨gb371, 1, none⟩) (Kd.R_far (p := ⟨gb371, 0, none⟩) (Kd.R_types HO369.out BK371.out (by decide)) (fun _ hk => hk.2) (.int .i64 t366)) (fun _ hk => hk.2) (.slice Ao13 t367.length co13)) (fun _ h_ => h_.1))) (Kd.R_base ho0) hb); replace BK371 := mk_ (blk_below (g := gb371) (o := .cells #[.int .i64 t366, .slice Ao13 t367.length co13] 51 (0, 0)) (by (with_reducible repeat (first | refine blk_drewN ?_ _ | refine blk_drew ?_ | refine blk_alloc ?_ _)); refine blk_put (cs := #[.int .i64 t366, .slice none 0 0]) ?_ 1 _ rfl; (with_reducible repeat (first | refine blk_drewN ?_ _ | refine blk_drew ?_ | refine blk_alloc ?_ _)); refine blk_put (cs := #[.int .i64 0, .slice none 0 0]) ?_ 0 _ rfl; (with_reducible repeat (first | refine blk_drewN ?_ _ | refine blk_drew ?_ | refine blk_alloc ?_ _)); exact BK371.out) hb); replace HB := mk_ (below_step (at_ HB.out) hb); (try clear hb); (try clear hb2); (try clear hk); (try clear hi); (try clear ho0)) | ((with_reducible refine gate_dst (N := 8) rfl ?_); (try (refine gate_guard (by rfl) ?_; dsimp only)); refine box_event ?hg (N := 8) ?hd (cs := #[.int .i64 0, .slice none 0 0]) (t := 51) ?hr ?_; (case hd => rfl); (case hg => rfl); (case hr => first | (go_simp; done) | (go_simp; rfl)); intro gb377 hg w15 hbox hb; replace HO363 := mk_ (Kd.S_below (Kd.S_below HO363.out lt_) hb); replace HO365 := mk_ (Kd.R_below (Kd.R_below HO365.out lt_) hb); replace HO369 := mk_ (Kd.R_below (Kd.R_below HO369.out lt_) hb); replace HO375 := mk_ (Kd.R_below (Kd.R_below HO375.out lt_) hb); have BK377 := mk_ (hbox); have GW377 := mk_ ((by rw [hg]; exact (below_size (at_ HB.out)) : w.heap.size ≤ gb377)); have GE377 := mk_ ((by rw [hg]; exact (below_size (at_ HB.out)) : w.heap.size ≤ gb377)); replace HB := mk_ (below_step (at_ HB.out) hb); have NB371_377 := mk_ ((by rw [hg]; exact Nat.ne_of_lt (blk_lt (g := gb371) (o := .cells #[.int .i64 t366, .slice Ao13 t367.length co13] 51 (0, 0)) (bk_ BK371.out)) : gb371 ≠ gb377)); have NB377_371 := mk_ ((by rw [hg]; exact Nat.ne_of_gt (blk_lt (g := gb371) (o := .cells #[.int .i64 t366, .slice Ao13 t367.length co13] 51 (0, 0)) (bk_ BK371.out)) : gb377 ≠ gb371)); replace BK371 := mk_ (blk_at BK371.out hb); clear hb hbox hg; have hnb16 := NB377_371.out; have hnc16 := NB371_377.out; have hcz17_0 := blk_cell BK377.out 0; have hcz17_1 := blk_cell BK377.out 1; have hfz17_0 := blk_frozen BK377.out 0; have hfz17_1 := blk_frozen BK377.out 1; obtain ⟨Ao18, co18, eo18⟩ := Kd.R_slice HO375.out; subst eo18))
 (try simp only [Act.put, z0_, z1_, z2_])
 go_cut [41] (fun v41 wc => ∃ (kq : Nat) (x41_5 : Bool), v41 = .bool x41_5 ∧ Aside0 (laws_FnFindProof.j0 kq t359 t360 t361 t370 x41_5 t366 t367 = some r) ∧ Aside0 (kq ≤ k) ∧ Aside0 (Kd.S k38 38 wc w.heap.size (fun k_ => some k_ ≠ ((.slice Ao9 t361.length co9) : Value).ownBlock) (.slice Ao8 t360.length co8) t360) ∧ Aside0 (Kd.R k47 47 wc w.heap.size (fun _ => True) (.slice Ao9 t361.length co9) t361) ∧ Aside0 (Kd.R k93 93 wc w.heap.size (fun k_ => some k_ ≠ ((.slice Ao18 t373.length co18) : Value).ownBlock) (.slice Ao13 t367.length co13) t367) ∧ Aside0 (Kd.R k93 93 wc w.heap.size (fun k_ => some k_ ≠ ((.slice Ao13 t367.length co13) : Value).ownBlock) (.slice Ao18 t373.length co18) t373) ∧ Aside0 (wc.heap[gb371]? = some (.cells #[.int .i64 t366, (.slice Ao13 t367.length co13)] 51 (0, 0))) ∧ Aside0 (wc.heap[gb377]? = some (.cells #[.int .i64 t372, (.slice Ao18 t373.length co18)] 51 (0, 0))) ∧ Aside0 (Below w.heap.size w wc))
 case first =>
  have H := HC6.out
  clear HC6
  replace H := Option.bind_eq_some_iff.mp H
  obtain ⟨t378, A190, H⟩ := H
  try dsimp only at H
  have A19 := mk_ A190
  clear A190
  by_cases c20 : t378 = true
  ·subst c20
   rw [if_pos rfl] at H
   have H' := mk_ H
   clear H
   have hnb21 := NB371_377.out
   have hnc21 := NB377_371.out
   have hcz22_0 := blk_cell BK371.out 0
   have hcz22_1 := blk_cell BK371.out 1
   have hfz22_0 := blk_frozen BK371.out 0
   have hfz22_1 := blk_frozen BK371.out 1
   have hcz23_0 := blk_cell BK377.out 0
   have hcz23_1 := blk_cell BK377.out 1
   have hfz23_0 := blk_frozen BK377.out 0
   have hfz23_1 := blk_frozen BK377.out 1
   go_wp2_with (first | ((with_reducible refine gate_callee (f := 43) rfl ?_); refine goesL_ (some 35) rfl rfl Try.func43 (by kernel_rfl) rfl #[.agg #[.int .i64 t366, .slice Ao13 t367.length co13], .agg #[.int .i64 t372, .slice Ao18 t373.length co18]] rfl gl_ ?_; (with_reducible refine (laws_sameProof.calls k t366 _ _ t367 t372 _ _ t373 true _ ?side1 ?side2 ?side3 ?side4 A19.out).mono ?_); (case side1 => refine (Kd.R_reads' (e := 93) (base := w.heap.size) (ok := fun k_ => (True ∧ some k_ ≠ (.slice Ao18 t373.length co18 : Value).ownBlock)) (n := t367.length) (c := co13) ?_).2.2; exact (by (with_reducible repeat (first | apply Kd.R_alloc | apply Kd.R_drewN | apply Kd.R_drew)); exact (Kd.R_mono (Kd.R_far (p := ⟨gb377, 1, none⟩) (Kd.R_far (p := ⟨gb377, 0, none⟩) (Kd.R_types HO369.out BK377.out (by decide)) (fun _ hk => hk.2) (.int .i64 t372)) (fun _ hk => hk.2) (.slice Ao18 t373.length co18)) (fun _ h_ => h_.1)))); (case side2 => exact (Kd.R_reads' HO369.out).2.1); (case side3 => refine (Kd.R_reads' (e := 93) (base := w.heap.size) (ok := fun k_ => (True ∧ some k_ ≠ (.slice Ao13 t367.length co13 : Value).ownBlock)) (n := t373.length) (c := co18) ?_).2.2; exact (by (with_reducible repeat (first | apply Kd.R_alloc | apply Kd.R_drewN | apply Kd.R_drew)); exact (Kd.R_mono (Kd.R_far (p := ⟨gb377, 1, none⟩) (Kd.R_far (p := ⟨gb377, 0, none⟩) (Kd.R_types HO375.out BK377.out (by decide)) (fun _ hk => hk.2) (.int .i64 t372)) (fun _ hk => hk.2) (.slice Ao18 t373.length co18)) (fun _ h_ => h_.1)))); (case side4 => exact (Kd.R_reads' HO375.out).2.1); rintro e w24 ⟨rfl, hb⟩; refine ⟨_, rfl, ?_⟩; replace HO363 := mk_ (Kd.S_below (by (with_reducible repeat (first | apply Kd.S_alloc | apply Kd.S_drewN | apply Kd.S_drew)); exact (Kd.S_mono (Kd.S_far (p := ⟨gb377, 1, none⟩) (Kd.S_far (p := ⟨gb377, 0, none⟩) (Kd.S_types HO363.out BK377.out (by decide)) (fun _ hk => hk.2) (.int .i64 t372)) (fun _ hk => hk.2) (.slice Ao18 t373.length co18)) (fun _ h_ => h_.1))) hb); replace HO365 := mk_ (Kd.R_below (by (with_reducible repeat (first | apply Kd.R_alloc | apply Kd.R_drewN | apply Kd.R_drew)); exact (Kd.R_mono (Kd.R_far (p := ⟨gb377, 1, none⟩) (Kd.R_far (p := ⟨gb377, 0, none⟩) (Kd.R_types HO365.out BK377.out (by decide)) (fun _ hk => hk.2) (.int .i64 t372)) (fun _ hk => hk.2) (.slice Ao18 t373.length co18)) (fun _ h_ => h_.1))) hb); replace HO369 := mk_ (Kd.R_below (by (with_reducible repeat (first | apply Kd.R_alloc | apply Kd.R_drewN | apply Kd.R_drew)); exact (Kd.R_mono (Kd.R_far (p := ⟨gb377, 1, none⟩) (Kd.R_far (p := ⟨gb377, 0, none⟩) (Kd.R_types HO369.out BK377.out (by decide)) (fun _ hk => hk.2) (.int .i64 t372)) (fun _ hk => hk.2) (.slice Ao18 t373.length co18)) (fun _ h_ => h_.1))) hb); replace HO375 := mk_ (Kd.R_below (by (with_reducible repeat (first | apply Kd.R_alloc | apply Kd.R_drewN | apply Kd.R_drew)); exact (Kd.R_mono (Kd.R_far (p := ⟨gb377, 1, none⟩) (Kd.R_far (p := ⟨gb377, 0, none⟩) (Kd.R_types HO375.out BK377.out (by decide)) (fun _ hk => hk.2) (.int .i64 t372)) (fun _ hk => hk.2) (.slice Ao18 t373.length co18)) (fun _ h_ => h_.1))) hb); replace BK371 := mk_ (blk_below (g := gb371) (o := .cells #[.int .i64 t366, .slice Ao13 t367.length co13] 51 (0, 0)) (by (with_reducible repeat (first | refine blk_drewN ?_ _ | refine blk_drew ?_ | refine blk_alloc ?_ _)); refine blk_far ?_ NB371_377.out _; (with_reducible repeat (first | refine blk_drewN ?_ _ | refine blk_drew ?_ | refine blk_alloc ?_ _)); refine blk_far ?_ NB371_377.out _; (with_reducible repeat (first | refine blk_drewN ?_ _ | refine blk_drew ?_ | refine blk_alloc ?_ _)); exact BK371.out) hb); replace BK377 := mk_ (blk_below (g := gb377) (o := .cells #[.int .i64 t372, .slice Ao18 t373.length co18] 51 (0, 0)) (by (with_reducible repeat (first | refine blk_drewN ?_ _ | refine blk_drew ?_ | refine blk_alloc ?_ _)); refine blk_put (cs := #[.int .i64 t372, .slice none 0 0]) ?_ 1 _ rfl; (with_reducible repeat (first | refine blk_drewN ?_ _ | refine blk_drew ?_ | refine blk_alloc ?_ _)); refine blk_put (cs := #[.int .i64 0, .slice none 0 0]) ?_ 0 _ rfl; (with_reducible repeat (first | refine blk_drewN ?_ _ | refine blk_drew ?_ | refine blk_alloc ?_ _)); exact BK377.out) hb); replace HB := mk_ (below_step (at_ HB.out) hb); (try clear hb); (try clear hb2); (try clear hk); (try clear hi)))
   go_meet
   case rel => exact ⟨_, ((t370 != t376)), (by first | rfl | (simp; done) | (simp [*]; done)), H', ⟨by first | omega | exact Nat.le_refl _⟩, ⟨Kd.S_below HO363.out lt_⟩, ⟨Kd.R_below HO365.out lt_⟩, ⟨Kd.R_below (Kd.R_mono HO369.out (fun _ hk => hk.2)) lt_⟩, ⟨Kd.R_below (Kd.R_mono HO375.out (fun _ hk => hk.2)) lt_⟩, ⟨by (with_reducible repeat (first | refine blk_drewN ?_ _ | refine blk_drew ?_ | refine blk_alloc ?_ _)); exact BK371.out⟩, ⟨by (with_reducible repeat (first | refine blk_drewN ?_ _ | refine blk_drew ?_ | refine blk_alloc ?_ _)); exact BK377.out⟩, ⟨at_ HB.out⟩⟩
  replace c20 := Bool.eq_false_iff.mpr c20
  subst c20
  rw [if_neg (show ¬ (false = true) by decide)] at H
  have H' := mk_ H
  clear H
  have hnb25 := NB371_377.out
  have hnc25 := NB377_371.out
  have hcz26_0 := blk_cell BK371.out 0
  have hcz26_1 := blk_cell BK371.out 1
  have hfz26_0 := blk_frozen BK371.out 0
  have hfz26_1 := blk_frozen BK371.out 1
  have hcz27_0 := blk_cell BK377.out 0
  have hcz27_1 := blk_cell BK377.out 1
  have hfz27_0 := blk_frozen BK377.out 0
  have hfz27_1 := blk_frozen BK377.out 1
  go_wp2_with (first | ((with_reducible refine gate_callee (f := 43) rfl ?_); refine goesL_ (some 35) rfl rfl Try.func43 (by kernel_rfl) rfl #[.agg #[.int .i64 t366, .slice Ao13 t367.length co13], .agg #[.int .i64 t372, .slice Ao18 t373.length co18]] rfl gl_ ?_; (with_reducible refine (laws_sameProof.calls k t366 _ _ t367 t372 _ _ t373 false _ ?side1 ?side2 ?side3 ?side4 A19.out).mono ?_); (case side1 => refine (Kd.R_reads' (e := 93) (base := w.heap.size) (ok := fun k_ => (True ∧ some k_ ≠ (.slice Ao18 t373.length co18 : Value).ownBlock)) (n := t367.length) (c := co13) ?_).2.2; exact (by (with_reducible repeat (first | apply Kd.R_alloc | apply Kd.R_drewN | apply Kd.R_drew)); exact (Kd.R_mono (Kd.R_far (p := ⟨gb377, 1, none⟩) (Kd.R_far (p := ⟨gb377, 0, none⟩) (Kd.R_types HO369.out BK377.out (by decide)) (fun _ hk => hk.2) (.int .i64 t372)) (fun _ hk => hk.2) (.slice Ao18 t373.length co18)) (fun _ h_ => h_.1)))); (case side2 => exact (Kd.R_reads' HO369.out).2.1); (case side3 => refine (Kd.R_reads' (e := 93) (base := w.heap.size) (ok := fun k_ => (True ∧ some k_ ≠ (.slice Ao13 t367.length co13 : Value).ownBlock)) (n := t373.length) (c := co18) ?_).2.2; exact (by (with_reducible repeat (first | apply Kd.R_alloc | apply Kd.R_drewN | apply Kd.R_drew)); exact (Kd.R_mono (Kd.R_far (p := ⟨gb377, 1, none⟩) (Kd.R_far (p := ⟨gb377, 0, none⟩) (Kd.R_types HO375.out BK377.out (by decide)) (fun _ hk => hk.2) (.int .i64 t372)) (fun _ hk => hk.2) (.slice Ao18 t373.length co18)) (fun _ h_ => h_.1)))); (case side4 => exact (Kd.R_reads' HO375.out).2.1); rintro e w28 ⟨rfl, hb⟩; refine ⟨_, rfl, ?_⟩; replace HO363 := mk_ (Kd.S_below (by (with_reducible repeat (first | apply Kd.S_alloc | apply Kd.S_drewN | apply Kd.S_drew)); exact (Kd.S_mono (Kd.S_far (p := ⟨gb377, 1, none⟩) (Kd.S_far (p := ⟨gb377, 0, none⟩) (Kd.S_types HO363.out BK377.out (by decide)) (fun _ hk => hk.2) (.int .i64 t372)) (fun _ hk => hk.2) (.slice Ao18 t373.length co18)) (fun _ h_ => h_.1))) hb); replace HO365 := mk_ (Kd.R_below (by (with_reducible repeat (first | apply Kd.R_alloc | apply Kd.R_drewN | apply Kd.R_drew)); exact (Kd.R_mono (Kd.R_far (p := ⟨gb377, 1, none⟩) (Kd.R_far (p := ⟨gb377, 0, none⟩) (Kd.R_types HO365.out BK377.out (by decide)) (fun _ hk => hk.2) (.int .i64 t372)) (fun _ hk => hk.2) (.slice Ao18 t373.length co18)) (fun _ h_ => h_.1))) hb); replace HO369 := mk_ (Kd.R_below (by (with_reducible repeat (first | apply Kd.R_alloc | apply Kd.R_drewN | apply Kd.R_drew)); exact (Kd.R_mono (Kd.R_far (p := ⟨gb377, 1, none⟩) (Kd.R_far (p := ⟨gb377, 0, none⟩) (Kd.R_types HO369.out BK377.out (by decide)) (fun _ hk => hk.2) (.int .i64 t372)) (fun _ hk => hk.2) (.slice Ao18 t373.length co18)) (fun _ h_ => h_.1))) hb); replace HO375 := mk_ (Kd.R_below (by (with_reducible repeat (first | apply Kd.R_alloc | apply Kd.R_drewN | apply Kd.R_drew)); exact (Kd.R_mono (Kd.R_far (p := ⟨gb377, 1, none⟩) (Kd.R_far (p := ⟨gb377, 0, none⟩) (Kd.R_types HO375.out BK377.out (by decide)) (fun _ hk => hk.2) (.int .i64 t372)) (fun _ hk => hk.2) (.slice Ao18 t373.length co18)) (fun _ h_ => h_.1))) hb); replace BK371 := mk_ (blk_below (g := gb371) (o := .cells #[.int .i64 t366, .slice Ao13 t367.length co13] 51 (0, 0)) (by (with_reducible repeat (first | refine blk_drewN ?_ _ | refine blk_drew ?_ | refine blk_alloc ?_ _)); refine blk_far ?_ NB371_377.out _; (with_reducible repeat (first | refine blk_drewN ?_ _ | refine blk_drew ?_ | refine blk_alloc ?_ _)); refine blk_far ?_ NB371_377.out _; (with_reducible repeat (first | refine blk_drewN ?_ _ | refine blk_drew ?_ | refine blk_alloc ?_ _)); exact BK371.out) hb); replace BK377 := mk_ (blk_below (g := gb377) (o := .cells #[.int .i64 t372, .slice Ao18 t373.length co18] 51 (0, 0)) (by (with_reducible repeat (first | refine blk_drewN ?_ _ | refine blk_drew ?_ | refine blk_alloc ?_ _)); refine blk_put (cs := #[.int .i64 t372, .slice none 0 0]) ?_ 1 _ rfl; (with_reducible repeat (first | refine blk_drewN ?_ _ | refine blk_drew ?_ | refine blk_alloc ?_ _)); refine blk_put (cs := #[.int .i64 0, .slice none 0 0]) ?_ 0 _ rfl; (with_reducible repeat (first | refine blk_drewN ?_ _ | refine blk_drew ?_ | refine blk_alloc ?_ _)); exact BK377.out) hb); replace HB := mk_ (below_step (at_ HB.out) hb); (try clear hb); (try clear hb2); (try clear hk); (try clear hi)))
  go_meet
  case rel => exact ⟨_, (true), (by first | rfl | (simp; done) | (simp [*]; done)), H', ⟨by first | omega | exact Nat.le_refl _⟩, ⟨Kd.S_below HO363.out lt_⟩, ⟨Kd.R_below HO365.out lt_⟩, ⟨Kd.R_below (Kd.R_mono HO369.out (fun _ hk => hk.2)) lt_⟩, ⟨Kd.R_below (Kd.R_mono HO375.out (fun _ hk => hk.2)) lt_⟩, ⟨by (with_reducible repeat (first | refine blk_drewN ?_ _ | refine blk_drew ?_ | refine blk_alloc ?_ _)); exact BK371.out⟩, ⟨by (with_reducible repeat (first | refine blk_drewN ?_ _ | refine blk_drew ?_ | refine blk_alloc ?_ _)); exact BK377.out⟩, ⟨at_ HB.out⟩⟩
 clear HC6
 try clear c1
 try clear c2
 try clear c2b0
 try clear c2b1
 try clear p2
 try clear c3
 try clear c4
 try clear c10
 try clear c16
 try clear c20
 try clear c21
 try clear c25
 try clear c26
 try clear hcz12_0
 try clear hcz12_1
 try clear hcz17_0
 try clear hcz17_1
 try clear hcz22_0
 try clear hcz22_1
 try clear hcz23_0
 try clear hcz23_1
 try clear hcz26_0
 try clear hcz26_1
 try clear hcz27_0
 try clear hcz27_1
 try clear hfz12_0
 try clear hfz12_1
 try clear hfz17_0
 try clear hfz17_1
 try clear hfz22_0
 try clear hfz22_1
 try clear hfz23_0
 try clear hfz23_1
 try clear hfz26_0
 try clear hfz26_1
 try clear hfz27_0
 try clear hfz27_1
 obtain ⟨kq, x41_5, rfl, HA, HJ5, HO_4, HO_5, HO_372001, HO_378001, BK371, BK377, HB⟩ := hcut
 cases kq with
 | zero => exact absurd HA.out (by simp [laws_FnFindProof.j0])
 | succ kj5 =>
  have H := HA.out
  clear HA
  simp only [laws_FnFindProof.j0] at H
  by_cases c29 : x41_5 = true
  ·subst c29
   rw [if_pos rfl] at H
   obtain rfl := Option.some.inj H
   go_wp2
   go_ret
   exact ⟨er_, at_ HB.out⟩
  replace c29 := Bool.eq_false_iff.mpr c29
  subst c29
  rw [if_neg (show ¬ (false = true) by decide)] at H
  by_cases c30 : t370 = true
  ·subst c30
   rw [if_pos rfl] at H
   replace H := Option.bind_eq_some_iff.mp H
   obtain ⟨t379, A310, H⟩ := H
   try dsimp only at H
   have A31 := mk_ A310
   clear A310
   by_cases c32 : t379 = true
   rotate_left
   ·replace c32 := Bool.eq_false_iff.mpr c32
    subst c32
    rw [if_neg (show ¬ (false = true) by decide)] at H
    obtain rfl := Option.some.inj H
    go_wp2_with (first | ((with_reducible refine gate_callee (f := 44) rfl ?_); refine goesL_ (some 66) rfl rfl Try.func44 (by kernel_rfl) rfl #[.int .i64 t359, .slice Ao8 t360.length co8, .slice Ao9 t361.length co9] rfl gl_ ?_; (with_reducible refine (impl_FollowsFrom.calls kj5 t359 _ _ t360 _ _ t361 false _ ?side1 ?side2 ?side3 ?side4 A31.out).mono ?_); (case side1 => exact Kd.C_below (Kd.S_reads' HO_4.out).2.2 lt_); (case side2 => exact (Kd.S_reads' HO_4.out).2.1); (case side3 => exact Kd.C_below (Kd.R_reads' HO_5.out).2.2 lt_); (case side4 => exact (Kd.R_reads' HO_5.out).2.1); rintro e w38 ⟨rfl, hb⟩; refine ⟨_, rfl, ?_⟩; replace HB := mk_ (below_step (at_ HB.out) hb); (try clear HO_4 HO_5 HO_372001 HO_378001 BK371 BK377); (try clear hb); (try clear hb2); (try clear hk); (try clear hi)))
    go_ret
    exact ⟨er_, at_ HB.out⟩
   subst c32
   rw [if_pos rfl] at H
   replace H := Option.bind_eq_some_iff.mp H
   obtain ⟨t380, A330, H⟩ := H
   replace H : (some t380) = some r := H
   have A33 := mk_ A330
   clear A330
   obtain rfl := Option.some.inj H
   go_wp2_with (first | ((with_reducible refine gate_callee (f := 44) rfl ?_); refine goesL_ (some 66) rfl rfl Try.func44 (by kernel_rfl) rfl #[.int .i64 t359, .slice Ao8 t360.length co8, .slice Ao9 t361.length co9] rfl gl_ ?_; (with_reducible refine (impl_FollowsFrom.calls kj5 t359 _ _ t360 _ _ t361 true _ ?side1 ?side2 ?side3 ?side4 A31.out).mono ?_); (case side1 => exact Kd.C_below (Kd.S_reads' HO_4.out).2.2 lt_); (case side2 => exact (Kd.S_reads' HO_4.out).2.1); (case side3 => exact Kd.C_below (Kd.R_reads' HO_5.out).2.2 lt_); (case side4 => exact (Kd.R_reads' HO_5.out).2.1); rintro e w34 ⟨rfl, hb⟩; refine ⟨_, rfl, ?_⟩; replace HO_4 := mk_ (Kd.S_below (Kd.S_below HO_4.out lt_) hb); replace HO_5 := mk_ (Kd.R_below (Kd.R_below HO_5.out lt_) hb); replace HO_372001 := mk_ (Kd.R_below (Kd.R_below HO_372001.out lt_) hb); replace BK371 := mk_ (blk_at BK371.out hb); replace HB := mk_ (below_step (at_ HB.out) hb); (try clear HO_378001 BK377); (try clear hb); (try clear hb2); (try clear hk); (try clear hi); have hnb35 := NB371_377.out; have hnc35 := NB377_371.out; have hcz36_0 := blk_cell BK371.out 0; have hcz36_1 := blk_cell BK371.out 1; have hfz36_0 := blk_frozen BK371.out 0; have hfz36_1 := blk_frozen BK371.out 1) | (go_at_call 35; (with_reducible refine (impl_ProofOk.calls t359 _ _ t360 _ _ t361 t366 _ _ t367 t380 _ ?side1 ?side2 ?side3 ?side4 ?side5 ?side6 A33.out).mono ?_); (case side1 => exact Kd.C_below (Kd.S_reads' HO_4.out).2.2 lt_); (case side2 => exact (Kd.S_reads' HO_4.out).2.1); (case side3 => exact Kd.C_below (Kd.R_reads' HO_5.out).2.2 lt_); (case side4 => exact (Kd.R_reads' HO_5.out).2.1); (case side5 => exact Kd.C_below (Kd.R_reads' HO_372001.out).2.2 lt_); (case side6 => exact (Kd.R_reads' HO_372001.out).2.1); rintro e w37 ⟨rfl, hb⟩; replace HB := mk_ (below_step (at_ HB.out) hb); (try clear HO_4 HO_5 HO_372001 HO_378001 BK371 BK377); (try clear hb); (try clear hb2); (try clear hk); (try clear hi)))
   go_ret
   exact ⟨er_, at_ HB.out⟩
  replace c30 := Bool.eq_false_iff.mpr c30
  subst c30
  rw [if_neg (show ¬ (false = true) by decide)] at H
  by_cases c39 : t366 = 0
  rotate_left
  ·rw [if_neg c39] at H
   have c39b0 : (t366 == 0) = false := beq_eq_false_iff_ne.mpr c39
   have c39b1 : (t366 != 0) = true := bne_iff_ne.mpr c39
   obtain rfl := Option.some.inj H
   have hnb52 := NB371_377.out
   have hnc52 := NB377_371.out
   have hcz53_0 : wc.cell? ⟨gb371, 0, none⟩ = some (.int .i64 t366) := (blk_cell BK371.out 0).trans rfl
   have hcz53_1 : wc.cell? ⟨gb371, 1, none⟩ = some (.slice Ao13 t367.length co13) := (blk_cell BK371.out 1).trans rfl
   have hfz53_0 := blk_frozen BK371.out 0
   have hfz53_1 := blk_frozen BK371.out 1
   go_wp2
   go_ret
   exact ⟨er_, at_ HB.out⟩
  rw [if_pos c39] at H
  have c39b0 : (t366 == 0) = true := beq_iff_eq.mpr c39
  have c39b1 : (t366 != 0) = false := bne_eq_false_iff_eq.mpr c39
  clear c39
  by_cases c40 : (t367.length : Int) = 0
  rotate_left
  ·rw [if_neg c40] at H
   have c40b0 : ((t367.length : Int) == 0) = false := beq_eq_false_iff_ne.mpr c40
   have c40b1 : ((t367.length : Int) != 0) = true := bne_iff_ne.mpr c40
   have c40b2 : ¬ (t367 = []) := fun h_ => c40 (by rw [h_]; rfl)
   obtain rfl := Option.some.inj H
   have hnb50 := NB371_377.out
   have hnc50 := NB377_371.out
   have hcz51_0 : wc.cell? ⟨gb371, 0, none⟩ = some (.int .i64 t366) := (blk_cell BK371.out 0).trans rfl
   have hcz51_1 : wc.cell? ⟨gb371, 1, none⟩ = some (.slice Ao13 t367.length co13) := (blk_cell BK371.out 1).trans rfl
   have hfz51_0 := blk_frozen BK371.out 0
   have hfz51_1 := blk_frozen BK371.out 1
   go_wp2
   go_ret
   exact ⟨er_, at_ HB.out⟩
  rw [if_pos c40] at H
  have c40b0 : ((t367.length : Int) == 0) = true := beq_iff_eq.mpr c40
  have c40b1 : ((t367.length : Int) != 0) = false := bne_eq_false_iff_eq.mpr c40
  clear c40
  replace H := Option.bind_eq_some_iff.mp H
  obtain ⟨t381, A410, H⟩ := H
  try dsimp only at H
  have A41 := mk_ A410
  clear A410
  by_cases c42 : t381 = true
  ·subst c42
   rw [if_pos rfl] at H
   obtain rfl := Option.some.inj H
   have hnb43 := NB371_377.out
   have hnc43 := NB377_371.out
   have hcz44_0 : wc.cell? ⟨gb371, 0, none⟩ = some (.int .i64 t366) := (blk_cell BK371.out 0).trans rfl
   have hcz44_1 : wc.cell? ⟨gb371, 1, none⟩ = some (.slice Ao13 t367.length co13) := (blk_cell BK371.out 1).trans rfl
   have hfz44_0 := blk_frozen BK371.out 0
   have hfz44_1 := blk_frozen BK371.out 1
   go_wp2_with (first | (go_at_call 44; (with_reducible refine (impl_FollowsFrom.calls kj5 t359 _ _ t360 _ _ t361 true _ ?side1 ?side2 ?side3 ?side4 A41.out).mono ?_); (case side1 => exact Kd.C_below (Kd.S_reads' HO_4.out).2.2 lt_); (case side2 => exact (Kd.S_reads' HO_4.out).2.1); (case side3 => exact Kd.C_below (Kd.R_reads' HO_5.out).2.2 lt_); (case side4 => exact (Kd.R_reads' HO_5.out).2.1); rintro e w45 ⟨rfl, hb⟩; replace HB := mk_ (below_step (at_ HB.out) hb); (try clear HO_4 HO_5 HO_372001 HO_378001 BK371 BK377); (try clear hb); (try clear hb2); (try clear hk); (try clear hi)))
   go_ret
   exact ⟨er_, at_ HB.out⟩
  replace c42 := Bool.eq_false_iff.mpr c42
  subst c42
  rw [if_neg (show ¬ (false = true) by decide)] at H
  replace H := Option.bind_eq_some_iff.mp H
  obtain ⟨t382, A460, H⟩ := H
  replace H : (some t382) = some r := H
  have A46 := mk_ A460
  clear A460
  obtain rfl := Option.some.inj H
  have hnb47 := NB371_377.out
  have hnc47 := NB377_371.out
  have hcz48_0 : wc.cell? ⟨gb371, 0, none⟩ = some (.int .i64 t366) := (blk_cell BK371.out 0).trans rfl
  have hcz48_1 : wc.cell? ⟨gb371, 1, none⟩ = some (.slice Ao13 t367.length co13) := (blk_cell BK371.out 1).trans rfl
  have hfz48_0 := blk_frozen BK371.out 0
  have hfz48_1 := blk_frozen BK371.out 1
  go_wp2_with (first | (go_at_call 44; (with_reducible refine (impl_FollowsFrom.calls kj5 t359 _ _ t360 _ _ t361 false _ ?side1 ?side2 ?side3 ?side4 A41.out).mono ?_); (case side1 => exact Kd.C_below (Kd.S_reads' HO_4.out).2.2 lt_); (case side2 => exact (Kd.S_reads' HO_4.out).2.1); (case side3 => exact Kd.C_below (Kd.R_reads' HO_5.out).2.2 lt_); (case side4 => exact (Kd.R_reads' HO_5.out).2.1); rintro e w49 ⟨rfl, hb⟩; replace HB := mk_ (below_step (at_ HB.out) hb); (try clear HO_4 HO_5 HO_372001 HO_378001 BK371 BK377); (try clear hb); (try clear hb2); (try clear hk); (try clear hi)) | (go_at_call 21; (with_reducible refine (laws_alive.calls  t382 _ A46.out).mono ?_); rintro e w' ⟨rfl, ⟨nd, rfl⟩⟩))
  go_ret
  exact ⟨er_, at_ HB.out⟩

/-- THE ONE PURE STATEMENT of laws_FnFindProof: yours. -/
noncomputable def laws_FnFindProof.Pure : Prop := ∀ (l0 : List Int), l0.length ≤ maxLen → l0.length * 1 ≤ 140737488351232 → (∀ x ∈ l0, (Lit.int .u8 x).wf = true) → ∃ k, laws_FnFindProof.f k l0 = some true
theorem laws_FnFindProof.walk (P : laws_FnFindProof.Pure) (a0 : Option Addr) (len0 cap0 : Nat) (z0 : List Int) (w : World) (w0 : (a0 = none ∧ len0 = 0 ∧ cap0 = 0 ∧ z0 = []) ∨ ∃ x, a0 = some x ∧ len0 ≤ cap0 ∧ cap0 ≤ maxLen ∧ z0.length = cap0 ∧ (∀ i, i < z0.length → w.cell? (x.add i) = some (.int .u8 (z0.getD i 0))) ∧ ∀ n ∈ z0, (Lit.int .u8 n).wf = true) (y0 : len0 * 1 ≤ 140737488351232) :
  Calls Try.prog 10 #[.slice a0 len0 cap0] w fun e w' => e = .returned (.bool true) ∧ Below w.heap.size w w' := by
 obtain ⟨l0, rfl, hr0, hm0, hw0, hc0⟩ := ReadsInt.ofRowC w0
 obtain ⟨k, h⟩ := P l0 hm0 y0 hw0
 refine (laws_FnFindProof.calls k _ _ l0 true w (Kd.C_of_reads (d := (0 : Int)) (h1 := fun _ => rfl) hr0) hc0 h).mono ?_
 rintro e w' ⟨rfl, hd⟩
 exact ⟨rfl, hd⟩

end Go.Proofs.Ytcaogllnbpmcgaa.P

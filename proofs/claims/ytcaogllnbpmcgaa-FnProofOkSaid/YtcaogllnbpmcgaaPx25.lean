/- Go's functions come to just the answers of the Lean functions told here. -/
import Derived.Test.YtcaogllnbpmcgaaPx8
import Derived.Test.YtcaogllnbpmcgaaPx17
import Derived.Test.YtcaogllnbpmcgaaPx24
namespace Go.Proofs.Ytcaogllnbpmcgaa.P
open Go.RowKit Go.Proofs.YtcaogllnbpmcgaaW.PrintWords Go.Proofs.YtcaogllnbpmcgaaW.PrintLast Go.Proofs.YtcaogllnbpmcgaaW.PrintMore
attribute [local go_sem] max2_int min2_int max_two min_two max_three min_three max_four min_four
set_option linter.unusedVariables false
set_option linter.unusedSimpArgs false
noncomputable def laws_FnProofOk.f (k : Nat) (l0 : List Int) : Option (Bool) := if (l0.length : Int) > 1048576 then (some true) else ((spec_DrawProofOk.f k l0).bind fun bt434 => ((impl_ProofOk.f bt434.1 bt434.2.1 bt434.2.2.1 bt434.2.2.2.1 bt434.2.2.2.2).bind fun t446 => ((spec_ProofOk.f k bt434.1 bt434.2.1 bt434.2.2.1 bt434.2.2.2.1 bt434.2.2.2.2).bind fun t447 => (if (t446 != t447) = true then (some false) else (if t446 = true then ((some (([] : List (S38)) : List (S38))).bind fun y449 => (if y449.length + bt434.2.1.length < 4398046511104 then ((some (y449 ++ bt434.2.1 : List (S38))).bind fun y452 => (if (bt434.2.1.length : Int) > 0 then (if 0 < (bt434.2.1.length : Int) then (if y452.length < 4398046511104 then ((some (y452 ++ [(⟨(rd_T38 bt434.2.1 0).f0, (rd_T38 bt434.2.1 0).f1⟩ : S38)] : List (S38))).bind fun y456 => ((impl_FollowsFrom.f k bt434.1 bt434.2.1 bt434.2.2.1).bind fun t459 => (if t459 = true then ((spec_StoryOk.f k bt434.1 y456).bind fun t460 => (if t460 = true then ((impl_ProofOk.f bt434.1 y456 bt434.2.2.1 bt434.2.2.2.1 bt434.2.2.2.2).bind fun t461 => (some t461)) else (some true))) else (some false)))) else (none)) else (none)) else ((impl_FollowsFrom.f k bt434.1 bt434.2.1 bt434.2.2.1).bind fun t462 => (if t462 = true then ((spec_StoryOk.f k bt434.1 y452).bind fun t463 => (if t463 = true then ((impl_ProofOk.f bt434.1 y452 bt434.2.2.1 bt434.2.2.2.1 bt434.2.2.2.2).bind fun t464 => (some t464)) else (some true))) else (some false))))) else (none))) else ((laws_alive.f).bind fun t448 => (some t448)))))))
set_option maxHeartbeats 8000000 in
set_option maxRecDepth 100000 in
theorem laws_FnProofOk.calls (k : Nat) (A0 : Option Addr) (c0 : Nat) (l0 : List Int) (r : Bool) (w : World) (hr0 : Kd.C (Kd.int .u8) w A0 l0.length l0) (hc0 : l0.length ≤ c0) (h : laws_FnProofOk.f k l0 = some r) (hrt_ : r = true) :
  Calls Try.prog 11 #[.slice A0 l0.length c0] w fun e w' => e = .returned (.bool r) ∧ Below w.heap.size w w' := by
 subst hrt_
 have hu51 := Try.underlying51
 have hu38 := Try.underlying38
 have HR0 := mk_ hr0
 have HC0 := mk_ hc0
 clear hr0 hc0
 have HB := mk_ (Below.refl w.heap.size w)
 unfold laws_FnProofOk.f at h
 have H := h
 clear h
 by_cases c2 : (l0.length : Int) > 1048576
 ·rw [if_pos c2] at H
  have c2b0 : decide (1048576 < (l0.length : Int)) = true := decide_eq_true c2
  have c2b1 : decide (1048576 < l0.length) = true := decide_eq_true (by omega)
  clear c2
  first | (obtain rfl := Option.some.inj H) | clear H
  go_enter Try.func11, Try.ntmps11
  go_wp2
  go_ret
  exact ⟨er_, below_at HB.out⟩
 rw [if_neg c2] at H
 have c2b0 : decide (1048576 < (l0.length : Int)) = false := decide_eq_false c2
 have c2b1 : decide (1048576 < l0.length) = false := decide_eq_false (by omega)
 clear c2
 replace H := Option.bind_eq_some_iff.mp H
 obtain ⟨⟨t434, t435, t438, t441, t442⟩, A30, H⟩ := H
 try dsimp only at H
 have A3 := mk_ A30
 clear A30
 replace H := Option.bind_eq_some_iff.mp H
 obtain ⟨t446, A40, H⟩ := H
 try dsimp only at H
 have A4 := mk_ A40
 clear A40
 replace H := Option.bind_eq_some_iff.mp H
 obtain ⟨t447, A50, H⟩ := H
 try dsimp only at H
 have A5 := mk_ A50
 clear A50
 by_cases c6 : (t446 != t447) = true
 ·rw [if_pos c6] at H
  have c6b0 : (t446 != t447) = true := c6
  (try (have c6b1 : decide (t446 = t447) = false := by simpa using c6))
  (try (have c6b2 : (t446 == t447) = false := by simpa using c6))
  (try (have c6b3 : ¬ (t446 = t447) := by simpa using c6))
  clear c6
  cases H
 rw [if_neg c6] at H
 have c6b0 : (t446 != t447) = false := by simpa using c6
 (try (have c6b1 : decide (t446 = t447) = true := by simpa using c6))
 (try (have c6b2 : (t446 == t447) = true := by simpa using c6))
 clear c6
 go_enter Try.func11, Try.ntmps11
 go_upto_region 7 with (first | ((with_reducible refine gate_callee (f := 45) rfl ?_); refine goesL_ (some 14) rfl rfl Try.func45 (by kernel_rfl) rfl #[.slice A0 l0.length c0] rfl gl_ ?_; (with_reducible refine (spec_DrawProofOk.calls k _ _ l0 t434 t435 t438 t441 t442 _ ?side1 ?side2 A3.out).mono ?_); (case side1 => exact Kd.C_below HR0.out lt_); (case side2 => exact HC0.out); rintro e w79 ⟨v436, v439, v443, rfl, ho0, ho1, ho2, hb⟩; refine ⟨_, rfl, ?_⟩; have HO437 := mk_ (Kd.N_lower (Kd.N_mono (ok' := fun k_ => some k_ ≠ (v439 : Value).ownBlock ∧ some k_ ≠ (v443 : Value).ownBlock) (Kd.S_N (Kd.S_bound (Kd.S_apart' ho0 (Kd.R_typed ho2) (by decide)))) (fun k_ hk_ => ⟨hk_.1.1, hk_.1.2⟩)) (below_size (below_at HB.out))); have HO440 := mk_ (Kd.R_lower ho1 (below_size (below_at HB.out))); have HO444 := mk_ (Kd.R_lower ho2 (below_size (below_at HB.out))); replace HB := mk_ (below_step (below_at HB.out) hb); (try clear hb); (try clear ho0); (try clear ho1); (try clear ho2)) | ((with_reducible refine gate_dst (N := 6) rfl ?_); refine bx_ 6 #[.int .i64 0, .slice none 0 0] 51 ?_; intro gb445 hg w80 hbox hb; replace HO437 := mk_ (Kd.N_below (Kd.N_elderB (Kd.N_below HO437.out lt_) gb445 (Nat.le_of_eq hg.symm)) hb); replace HO440 := mk_ (Kd.R_below (Kd.R_below HO440.out lt_) hb); replace HO444 := mk_ (Kd.R_below (Kd.R_below HO444.out lt_) hb); have BK445 := mk_ (hbox); have GW445 := mk_ (gb_ hg HB.out); have GE445 := mk_ (gb_ hg HB.out); replace HB := mk_ (below_step (below_at HB.out) hb); clear hb hbox hg; have hcz81_0 := blk_cell BK445.out 0; have hcz81_1 := blk_cell BK445.out 1; have hfz81_0 := blk_frozen BK445.out 0; have hfz81_1 := blk_frozen BK445.out 1; obtain ⟨Ao82, co82, eo82⟩ := Kd.R_slice HO444.out; subst eo82; obtain ⟨Ao83, co83, eo83⟩ := Kd.N_slice HO437.out; subst eo83; obtain ⟨Ao84, co84, eo84⟩ := Kd.R_slice HO440.out; subst eo84) | ((with_reducible refine gate_callee (f := 35) rfl ?_); refine goesL_ (some 23) rfl rfl Try.func35 (by kernel_rfl) rfl #[.int .i64 t434, .slice Ao83 t435.length co83, .slice Ao84 t438.length co84, .agg #[.int .i64 t441, .slice Ao82 t442.length co82]] rfl gl_ ?_; (with_reducible refine (impl_ProofOk.calls t434 _ _ t435 _ _ t438 t441 _ _ t442 t446 _ ?side1 ?side2 ?side3 ?side4 ?side5 ?side6 A4.out).mono ?_); (case side1 => refine (Kd.N_reads' (e := 38) (base := w.heap.size) (ok := fun k_ => ((some k_ ≠ (.slice Ao84 t438.length co84 : Value).ownBlock ∧ some k_ ≠ (.slice Ao82 t442.length co82 : Value).ownBlock) ∧ k_ ≠ gb445)) (n := t435.length) (c := co83) ?_).2.2; exact (by (with_reducible repeat (first | apply Kd.N_alloc | apply Kd.N_drewN | apply Kd.N_drew)); exact (Kd.N_mono (Kd.N_far (p := ⟨gb445, 1, none⟩) (Kd.N_far (p := ⟨gb445, 0, none⟩) (Kd.N_mono HO437.out (fun k_ hk => (⟨hk, hk.2⟩ : _ ∧ k_ ≠ gb445))) (fun _ hk => hk.2) (.int .i64 t441)) (fun _ hk => hk.2) (.slice Ao82 t442.length co82)) (fun _ h_ => h_.1)))); (case side2 => exact (Kd.N_reads' HO437.out).2.1); (case side3 => refine (Kd.R_reads' (e := 47) (base := w.heap.size) (ok := fun k_ => True) (n := t438.length) (c := co84) ?_).2.2; exact (by (with_reducible repeat (first | apply Kd.R_alloc | apply Kd.R_drewN | apply Kd.R_drew)); exact (Kd.R_mono (Kd.R_far (p := ⟨gb445, 1, none⟩) (Kd.R_far (p := ⟨gb445, 0, none⟩) (Kd.R_types HO440.out BK445.out (by decide)) (fun _ hk => hk.2) (.int .i64 t441)) (fun _ hk => hk.2) (.slice Ao82 t442.length co82)) (fun _ h_ => h_.1)))); (case side4 => exact (Kd.R_reads' HO440.out).2.1); (case side5 => refine (Kd.R_reads' (e := 93) (base := w.heap.size) (ok := fun k_ => True) (n := t442.length) (c := co82) ?_).2.2; exact (by (with_reducible repeat (first | apply Kd.R_alloc | apply Kd.R_drewN | apply Kd.R_drew)); exact (Kd.R_mono (Kd.R_far (p := ⟨gb445, 1, none⟩) (Kd.R_far (p := ⟨gb445, 0, none⟩) (Kd.R_types HO444.out BK445.out (by decide)) (fun _ hk => hk.2) (.int .i64 t441)) (fun _ hk => hk.2) (.slice Ao82 t442.length co82)) (fun _ h_ => h_.1)))); (case side6 => exact (Kd.R_reads' HO444.out).2.1); rintro e w85 ⟨rfl, hb⟩; refine ⟨_, rfl, ?_⟩; replace HO437 := mk_ (Kd.N_below (by (with_reducible repeat (first | apply Kd.N_alloc | apply Kd.N_drewN | apply Kd.N_drew)); exact (Kd.N_mono (Kd.N_far (p := ⟨gb445, 1, none⟩) (Kd.N_far (p := ⟨gb445, 0, none⟩) (Kd.N_mono HO437.out (fun k_ hk => (⟨hk, hk.2⟩ : _ ∧ k_ ≠ gb445))) (fun _ hk => hk.2) (.int .i64 t441)) (fun _ hk => hk.2) (.slice Ao82 t442.length co82)) (fun _ h_ => h_.1))) hb); replace HO440 := mk_ (Kd.R_below (by (with_reducible repeat (first | apply Kd.R_alloc | apply Kd.R_drewN | apply Kd.R_drew)); exact (Kd.R_mono (Kd.R_far (p := ⟨gb445, 1, none⟩) (Kd.R_far (p := ⟨gb445, 0, none⟩) (Kd.R_types HO440.out BK445.out (by decide)) (fun _ hk => hk.2) (.int .i64 t441)) (fun _ hk => hk.2) (.slice Ao82 t442.length co82)) (fun _ h_ => h_.1))) hb); replace HO444 := mk_ (Kd.R_below (by (with_reducible repeat (first | apply Kd.R_alloc | apply Kd.R_drewN | apply Kd.R_drew)); exact (Kd.R_mono (Kd.R_far (p := ⟨gb445, 1, none⟩) (Kd.R_far (p := ⟨gb445, 0, none⟩) (Kd.R_types HO444.out BK445.out (by decide)) (fun _ hk => hk.2) (.int .i64 t441)) (fun _ hk => hk.2) (.slice Ao82 t442.length co82)) (fun _ h_ => h_.1))) hb); replace BK445 := mk_ (blk_below (g := gb445) (o := .cells #[.int .i64 t441, .slice Ao82 t442.length co82] 51 (0, 0)) (by refine bs_ ?_; refine blk_put (cs := #[.int .i64 t441, .slice none 0 0]) ?_ 1 _ rfl; refine bs_ ?_; refine blk_put (cs := #[.int .i64 0, .slice none 0 0]) ?_ 0 _ rfl; refine bs_ ?_; exact BK445.out) hb); replace HB := mk_ (below_step (at_ HB.out) hb); (try clear hb); have hcz86_0 := blk_cell BK445.out 0; have hcz86_1 := blk_cell BK445.out 1; have hfz86_0 := blk_frozen BK445.out 0; have hfz86_1 := blk_frozen BK445.out 1) | ((with_reducible refine gate_callee (f := 32) rfl ?_); refine goesL_ (some 29) rfl rfl Try.func32 (by kernel_rfl) rfl #[.int .i64 t434, .slice Ao83 t435.length co83, .slice Ao84 t438.length co84, .agg #[.int .i64 t441, .slice Ao82 t442.length co82]] rfl gl_ ?_; (with_reducible refine (spec_ProofOk.calls k t434 _ _ t435 _ _ t438 t441 _ _ t442 t447 _ ?side1 ?side2 ?side3 ?side4 ?side5 ?side6 A5.out).mono ?_); (case side1 => exact Kd.C_below (Kd.N_reads' HO437.out).2.2 lt_); (case side2 => exact (Kd.N_reads' HO437.out).2.1); (case side3 => exact Kd.C_below (Kd.R_reads' HO440.out).2.2 lt_); (case side4 => exact (Kd.R_reads' HO440.out).2.1); (case side5 => exact Kd.C_below (Kd.R_reads' HO444.out).2.2 lt_); (case side6 => exact (Kd.R_reads' HO444.out).2.1); rintro e w87 ⟨rfl, hb⟩; refine ⟨_, rfl, ?_⟩; replace HO437 := mk_ (Kd.N_below (Kd.N_below HO437.out lt_) hb); replace HO440 := mk_ (Kd.R_below (Kd.R_below HO440.out lt_) hb); replace HO444 := mk_ (Kd.R_below (Kd.R_below HO444.out lt_) hb); replace BK445 := mk_ (blk_at BK445.out hb); replace HB := mk_ (below_step (at_ HB.out) hb); (try clear hb)))
 by_cases c16 : t446 = true
 rotate_left
 ·replace c16 := Bool.eq_false_iff.mpr c16
  subst c16
  rw [if_neg Bool.false_ne_true] at H
  replace H := Option.bind_eq_some_iff.mp H
  obtain ⟨t448, A1240, H⟩ := H
  replace H : (some t448) = some true := H
  have A124 := mk_ A1240
  clear A1240
  first | (obtain rfl := Option.some.inj H) | clear H
  go_wp2_with (first | ((with_reducible refine gate_callee (f := 21) rfl ?_); refine goesL_ (some 33) rfl rfl Try.func21 (by kernel_rfl) rfl #[] rfl gl_ ?_; (with_reducible refine (laws_alive.calls  true _ A124.out).mono ?_); rintro e w' ⟨rfl, ⟨nd, rfl⟩⟩; refine ⟨_, rfl, ?_⟩))
  go_ret
  exact ⟨er_, at_ HB.out⟩
 subst c16
 rw [if_pos rfl] at H
 obtain ⟨y449, hy449⟩ : ∃ y_ : List (S38), y_ = (([] : List (S38))) := ⟨_, rfl⟩
 replace H : (if y449.length + t435.length < 4398046511104 then ((some (y449 ++ t435 : List (S38))).bind fun y452 => (if (t435.length : Int) > 0 then (if 0 < (t435.length : Int) then (if y452.length < 4398046511104 then ((some (y452 ++ [(⟨(rd_T38 t435 0).f0, (rd_T38 t435 0).f1⟩ : S38)] : List (S38))).bind fun y456 => ((impl_FollowsFrom.f k t434 t435 t438).bind fun t459 => (if t459 = true then ((spec_StoryOk.f k t434 y456).bind fun t460 => (if t460 = true then ((impl_ProofOk.f t434 y456 t438 t441 t442).bind fun t461 => (some t461)) else (some true))) else (some false)))) else (none)) else (none)) else ((impl_FollowsFrom.f k t434 t435 t438).bind fun t462 => (if t462 = true then ((spec_StoryOk.f k t434 y452).bind fun t463 => (if t463 = true then ((impl_ProofOk.f t434 y452 t438 t441 t442).bind fun t464 => (some t464)) else (some true))) else (some false))))) else (none)) = some true := by first | (rw [hy449]; exact H) | exact H
 have Ny449 := mk_ hy449
 clear hy449
 by_cases c17 : y449.length + t435.length < 4398046511104
 rotate_left
 ·rw [if_neg c17] at H
  exact absurd H (by simp)
 rw [if_pos c17] at H
 have LMc17 := mk_ c17
 clear c17
 obtain ⟨y452, hy452⟩ : ∃ y_ : List (S38), y_ = (y449 ++ t435) := ⟨_, rfl⟩
 first | (replace H := bn_ hy452 H; try dsimp only at H) | rw [← hy452] at H
 have Ny452 := mk_ hy452
 clear hy452
 go_upto_region 10 with (first | ((with_reducible refine gate_dst (N := 34) rfl ?_); refine Kd.N_lit k38 _ 38 ?hg (N' := 34) ?hd (xs := ([] : List (S38))) (inner := []) (ok := (fun k_ => some k_ ≠ (.slice Ao83 t435.length co83 : Value).ownBlock ∧ some k_ ≠ (.slice Ao84 t438.length co84 : Value).ownBlock ∧ some k_ ≠ (.slice Ao82 t442.length co82 : Value).ownBlock ∧ k_ ≠ gb445)) (okp := (fun k_ => some k_ ≠ (.slice Ao83 t435.length co83 : Value).ownBlock ∧ some k_ ≠ (.slice Ao84 t438.length co84 : Value).ownBlock ∧ some k_ ≠ (.slice Ao82 t442.length co82 : Value).ownBlock ∧ k_ ≠ gb445)) ?hr ?hp (fun _ hk => hk) ((show ∀ k_, w87.heap.size ≤ k_ → (fun k_ => some k_ ≠ (.slice Ao83 t435.length co83 : Value).ownBlock ∧ some k_ ≠ (.slice Ao84 t438.length co84 : Value).ownBlock ∧ some k_ ≠ (.slice Ao82 t442.length co82 : Value).ownBlock ∧ k_ ≠ gb445) k_ from fun k_ hk => ⟨Kd.fresh' (Kd.N_lt (Kd.N_below HO437.out lt_)) k_ hk, Kd.fresh' (Kd.R_lt (Kd.R_below HO440.out lt_)) k_ hk, Kd.fresh' (Kd.R_lt (Kd.R_below HO444.out lt_)) k_ hk, Kd.freshB (g := gb445) (o := .cells #[.int .i64 t441, .slice Ao82 t442.length co82] 51 (0, 0)) (bk_ BK445.out) k_ hk⟩) _ (Nat.le_refl _)) (Below.refl _ _) (Nat.le_refl _) (by simp) ?_; (case hd => rfl); (case hg => rfl); (case hr => first | (go_simp; done) | (go_simp; rfl)); (case hp => exact (Reps.none _ _)); intro v450 w88 ho89 hb hg_ hnew_; clear hg_ hnew_; (first | rw [← Ny449.out] at ho89 | (simp only [Int.reduceToNat] at ho89; rw [← Ny449.out] at ho89)); replace HO437 := mk_ (Kd.N_elder' (Kd.N_below HO437.out lt_) (Kd.N_base ho89) hb); replace HO440 := mk_ (Kd.R_below (Kd.R_below HO440.out lt_) hb); replace HO444 := mk_ (Kd.R_below (Kd.R_below HO444.out lt_) hb); have HO451 := mk_ (Kd.N_lower ho89 (below_size (at_ HB.out))); replace BK445 := mk_ (blk_at BK445.out hb); replace HB := mk_ (below_step (at_ HB.out) hb); clear hb ho89) | ((with_reducible refine gate_builtin (b := .append) (xs := #[.tmp 34, .tmp 35]) rfl ?_); at_builtin; refine Kd.N_append_rows k38 (w0 := w) w.heap.size rfl (.tmp 34) (.tmp 35) 25 38 (.agg #[(.int .i64 0), (.slice none 0 0)]) 32 rfl Try.underlying25 info38 rfl (by decide) (by omega) v450 y449 t435 _ _ _ (fun k_ => some k_ ≠ (.slice Ao84 t438.length co84 : Value).ownBlock ∧ some k_ ≠ (.slice Ao82 t442.length co82 : Value).ownBlock ∧ k_ ≠ gb445) (fun k_ => ((fun k_ => some k_ ≠ (.slice Ao84 t438.length co84 : Value).ownBlock ∧ some k_ ≠ (.slice Ao82 t442.length co82 : Value).ownBlock ∧ k_ ≠ gb445)) k_ ∧ some k_ ≠ (v450 : Value).ownBlock) rfl rfl ?aO ?aR (fun _ hk => hk) ?aF ?aB ?aS ?aL ?_; (case aR => exact (by skip; exact Kd.N_F (Kd.N_mono (ok' := (fun k_ => ((fun k_ => some k_ ≠ (.slice Ao84 t438.length co84 : Value).ownBlock ∧ some k_ ≠ (.slice Ao82 t442.length co82 : Value).ownBlock ∧ k_ ≠ gb445)) k_ ∧ some k_ ≠ (v450 : Value).ownBlock)) (HO437.out) (fun k_ hk => ⟨⟨hk.1.1.1, ⟨hk.1.1.2, hk.1.2⟩⟩, hk.2⟩)))); (case aB => exact (at_ HB.out)); (case aF => exact (fun k_ hk => ⟨Kd.fresh' (Kd.R_lt (Kd.R_below HO440.out lt_)) k_ hk, Kd.fresh' (Kd.R_lt (Kd.R_below HO444.out lt_)) k_ hk, Kd.freshB (g := gb445) (o := .cells #[.int .i64 t441, .slice Ao82 t442.length co82] 51 (0, 0)) (bk_ BK445.out) k_ hk⟩)); (case aO => exact (Kd.N_below (Kd.N_mono HO451.out (fun _ hk => ⟨hk.2.1, ⟨hk.2.2.1, hk.2.2.2⟩⟩)) lt_)); (case aS => exact (below_size (at_ HB.out))); (case aL => have := LMc17.out; omega); intro v453 w90 ho hb hg hat; rw [← Ny452.out] at ho; replace HO437 := mk_ (Kd.N_afterv (ok := (fun k_ => some k_ ≠ (.slice Ao84 t438.length co84 : Value).ownBlock ∧ some k_ ≠ (.slice Ao82 t442.length co82 : Value).ownBlock ∧ k_ ≠ gb445)) (Kd.N_below (Kd.N_mono HO437.out (fun _ hk => ⟨⟨hk.1.1.1, ⟨hk.1.1.2, hk.1.2⟩⟩, hk.2⟩)) lt_) hg hat); replace HO440 := mk_ (Kd.R_over' (Kd.R_below HO440.out lt_) (Kd.N_typed (Kd.N_below HO451.out lt_)) (by decide) hg); replace HO444 := mk_ (Kd.R_over' (Kd.R_below HO444.out lt_) (Kd.N_typed (Kd.N_below HO451.out lt_)) (by decide) hg); replace BK445 := mk_ (blk_grown (g := gb445) (o := .cells #[.int .i64 t441, .slice Ao82 t442.length co82] 51 (0, 0)) (bk_ BK445.out) hg (Kd.N_ne HO451.out BK445.out (by decide))); replace HB := mk_ (hb); have HO454 := mk_ (ho); (try clear HO451); clear ho hb hg hat))
 by_cases c18 : (t435.length : Int) > 0
 rotate_left
 ·rw [if_neg c18] at H
  have c18b0 : decide (0 < (t435.length : Int)) = false := decide_eq_false c18
  have c18b1 : decide (0 < t435.length) = false := decide_eq_false (by omega)
  clear c18
  replace H := Option.bind_eq_some_iff.mp H
  obtain ⟨t462, A740, H⟩ := H
  try dsimp only at H
  have A74 := mk_ A740
  clear A740
  by_cases c75 : t462 = true
  rotate_left
  ·replace c75 := Bool.eq_false_iff.mpr c75
   subst c75
   rw [if_neg Bool.false_ne_true] at H
   cases H
  subst c75
  rw [if_pos rfl] at H
  replace H := Option.bind_eq_some_iff.mp H
  obtain ⟨t463, A760, H⟩ := H
  try dsimp only at H
  have A76 := mk_ A760
  clear A760
  by_cases c77 : t463 = true
  rotate_left
  ·replace c77 := Bool.eq_false_iff.mpr c77
   subst c77
   rw [if_neg Bool.false_ne_true] at H
   first | (obtain rfl := Option.some.inj H) | clear H
   go_wp2_with (first | ((with_reducible refine gate_callee (f := 44) rfl ?_); refine goesL_ (some 49) rfl rfl Try.func44 (by kernel_rfl) rfl #[.int .i64 t434, .slice Ao83 t435.length co83, .slice Ao84 t438.length co84] rfl gl_ ?_; (with_reducible refine (impl_FollowsFrom.calls k t434 _ _ t435 _ _ t438 true _ ?side1 ?side2 ?side3 ?side4 A74.out).mono ?_); (case side1 => exact Kd.C_below (Kd.N_reads' HO437.out).2.2 lt_); (case side2 => exact (Kd.N_reads' HO437.out).2.1); (case side3 => exact Kd.C_below (Kd.R_reads' HO440.out).2.2 lt_); (case side4 => exact (Kd.R_reads' HO440.out).2.1); rintro e w108 ⟨rfl, hb⟩; refine ⟨_, rfl, ?_⟩; replace HO454 := mk_ (Kd.N_below (Kd.N_below HO454.out lt_) hb); replace HB := mk_ (below_step (at_ HB.out) hb); (try clear HO437 HO440 HO444 BK445); (try clear hb); obtain ⟨Ao109, co109, eo109⟩ := Kd.N_slice HO454.out; subst eo109) | (go_at_call 27; (with_reducible refine (spec_StoryOk.calls k t434 _ _ y452 false _ ?side1 ?side2 A76.out).mono ?_); (case side1 => exact Kd.C_below (Kd.N_reads' HO454.out).2.2 lt_); (case side2 => exact (Kd.N_reads' HO454.out).2.1); rintro e w110 ⟨rfl, hb⟩; replace HB := mk_ (below_step (at_ HB.out) hb); (try clear HO437 HO440 HO444 HO454 BK445); (try clear hb)))
   go_ret
   exact ⟨er_, at_ HB.out⟩
  subst c77
  rw [if_pos rfl] at H
  replace H := Option.bind_eq_some_iff.mp H
  obtain ⟨t464, A780, H⟩ := H
  replace H : (some t464) = some true := H
  have A78 := mk_ A780
  clear A780
  first | (obtain rfl := Option.some.inj H) | clear H
  go_wp2_with (first | ((with_reducible refine gate_callee (f := 44) rfl ?_); refine goesL_ (some 49) rfl rfl Try.func44 (by kernel_rfl) rfl #[.int .i64 t434, .slice Ao83 t435.length co83, .slice Ao84 t438.length co84] rfl gl_ ?_; (with_reducible refine (impl_FollowsFrom.calls k t434 _ _ t435 _ _ t438 true _ ?side1 ?side2 ?side3 ?side4 A74.out).mono ?_); (case side1 => exact Kd.C_below (Kd.N_reads' HO437.out).2.2 lt_); (case side2 => exact (Kd.N_reads' HO437.out).2.1); (case side3 => exact Kd.C_below (Kd.R_reads' HO440.out).2.2 lt_); (case side4 => exact (Kd.R_reads' HO440.out).2.1); rintro e w91 ⟨rfl, hb⟩; refine ⟨_, rfl, ?_⟩; replace HO440 := mk_ (Kd.R_below (Kd.R_below HO440.out lt_) hb); replace HO444 := mk_ (Kd.R_below (Kd.R_below HO444.out lt_) hb); replace HO454 := mk_ (Kd.N_below (Kd.N_below HO454.out lt_) hb); replace BK445 := mk_ (blk_at BK445.out hb); replace HB := mk_ (below_step (at_ HB.out) hb); (try clear HO437); (try clear hb); obtain ⟨Ao92, co92, eo92⟩ := Kd.N_slice HO454.out; subst eo92) | (go_at_call 27; (with_reducible refine (spec_StoryOk.calls k t434 _ _ y452 true _ ?side1 ?side2 A76.out).mono ?_); (case side1 => exact Kd.C_below (Kd.N_reads' HO454.out).2.2 lt_); (case side2 => exact (Kd.N_reads' HO454.out).2.1); rintro e w93 ⟨rfl, hb⟩; replace HO440 := mk_ (Kd.R_below (Kd.R_below HO440.out lt_) hb); replace HO444 := mk_ (Kd.R_below (Kd.R_below HO444.out lt_) hb); replace HO454 := mk_ (Kd.N_below (Kd.N_below HO454.out lt_) hb); replace BK445 := mk_ (blk_at BK445.out hb); replace HB := mk_ (below_step (at_ HB.out) hb); (try clear HO437); (try clear hb); have hcz94_0 := blk_cell BK445.out 0; have hcz94_1 := blk_cell BK445.out 1; have hfz94_0 := blk_frozen BK445.out 0; have hfz94_1 := blk_frozen BK445.out 1) | (go_at_call 35; (with_reducible refine (impl_ProofOk.calls t434 _ _ y452 _ _ t438 t441 _ _ t442 true _ ?side1 ?side2 ?side3 ?side4 ?side5 ?side6 A78.out).mono ?_); (case side1 => exact Kd.C_below (Kd.N_reads' HO454.out).2.2 lt_); (case side2 => exact (Kd.N_reads' HO454.out).2.1); (case side3 => exact Kd.C_below (Kd.R_reads' HO440.out).2.2 lt_); (case side4 => exact (Kd.R_reads' HO440.out).2.1); (case side5 => exact Kd.C_below (Kd.R_reads' HO444.out).2.2 lt_); (case side6 => exact (Kd.R_reads' HO444.out).2.1); rintro e w95 ⟨rfl, hb⟩; replace HB := mk_ (below_step (at_ HB.out) hb); (try clear HO437 HO440 HO444 HO454 BK445); (try clear hb)))
  go_ret
  exact ⟨er_, at_ HB.out⟩
 rw [if_pos c18] at H
 have c18b0 : decide (0 < (t435.length : Int)) = true := decide_eq_true c18
 have c18b1 : decide (0 < t435.length) = true := decide_eq_true (by omega)
 clear c18
 by_cases c19 : 0 < (t435.length : Int)
 rotate_left
 ·rw [if_neg c19] at H
  exact absurd H (by simp)
 rw [if_pos c19] at H
 have c19b0 : decide (0 < (t435.length : Int)) = true := decide_eq_true c19
 have c19b1 : decide (0 < t435.length) = true := decide_eq_true (by omega)
 clear c19
 by_cases c20 : y452.length < 4398046511104
 rotate_left
 ·rw [if_neg c20] at H
  exact absurd H (by simp)
 rw [if_pos c20] at H
 have LMc20 := mk_ c20
 clear c20
 obtain ⟨y456, hy456⟩ : ∃ y_ : List (S38), y_ = (y452 ++ [(⟨(rd_T38 t435 0).f0, (rd_T38 t435 0).f1⟩ : S38)]) := ⟨_, rfl⟩
 first | (replace H := bn_ hy456 H; try dsimp only at H) | rw [← hy456] at H
 have Ny456 := mk_ hy456
 clear hy456
 replace H := Option.bind_eq_some_iff.mp H
 obtain ⟨t459, A210, H⟩ := H
 try dsimp only at H
 have A21 := mk_ A210
 clear A210
 by_cases c22 : t459 = true
 rotate_left
 ·replace c22 := Bool.eq_false_iff.mpr c22
  subst c22
  rw [if_neg Bool.false_ne_true] at H
  cases H
 subst c22
 rw [if_pos rfl] at H
 replace H := Option.bind_eq_some_iff.mp H
 obtain ⟨t460, A230, H⟩ := H
 try dsimp only at H
 have A23 := mk_ A230
 clear A230
 by_cases c24 : t460 = true
 rotate_left
 ·replace c24 := Bool.eq_false_iff.mpr c24
  subst c24
  rw [if_neg Bool.false_ne_true] at H
  first | (obtain rfl := Option.some.inj H) | clear H
  (have p455 : 0 ≤ (0 : Int) := (by omega); have q455 : 0 < (t435.length : Int) := oa_; obtain ⟨ad455, A455_1, c455_1, e455, hx455_0, hx455_1, hl455_1, hi455_1⟩ := at_T38 (Kd.N_reads' HO437.out).2.2 0 p455 q455; cases e455; obtain ⟨ce455, hce455, hMe455, hcc455⟩ := Kd.N_get HO437.out z38 0 p455 (by first | exact q455 | exact oa_ | (have e_ := (Kd.N_reads' HO437.out).1; omega)); obtain ⟨ua455_1, uc455_1, rfl, ul455_1, ge455_1⟩ := k38_openF hMe455; have hv455_1 := hcc455 1 _ rfl; rw [add_field _ _ 1 (by omega)] at hv455_1; replace hv455_1 := Option.some.inj (hv455_1.symm.trans hx455_1); injection hv455_1 with hva_ hvn_ hvc_; rw [hva_] at ge455_1; rw [hvc_] at ul455_1; have HL455_1 := mk_ (show Kd.V k47 47 _ w.heap.size _ _ ((rd_T38 t435 0).f1) from Kd.V_mk ul455_1 ge455_1); clear hva_ hvn_ hvc_ ge455_1 ul455_1; clear hcc455 hce455; have qi455 : (0 < t435.length) = True := eq_true (by omega); (try rw [show ((0 : Int)).toNat = 0 from rfl] at hx455_0); (try rw [show 0 * 2 = 0 from rfl] at hx455_0); (try rw [Addr.add_zero'] at hx455_0); (try rw [show ((0 : Int)).toNat = 0 from rfl] at hx455_1); (try rw [show 0 * 2 = 0 from rfl] at hx455_1); (try rw [Addr.add_zero'] at hx455_1); have HR455_1 := mk_ hi455_1; have HC455_1 := mk_ hl455_1; clear hi455_1 hl455_1; replace p455 := eq_true p455; replace q455 := eq_true q455)
  go_wp2_with (first | ((with_reducible refine gate_builtin (b := .append) (xs := #[.tmp 40, .tmp 44]) rfl ?_); at_builtin; refine Kd.N_append k38 (w0 := w) w.heap.size rfl (.tmp 40) (.tmp 44) 25 38 (.agg #[(.int .i64 0), (.slice none 0 0)]) 32 rfl Try.underlying25 info38 rfl (by decide) (by omega) v453 y452 (⟨(rd_T38 t435 0).f0, (rd_T38 t435 0).f1⟩ : S38) [.int .i64 ((rd_T38 t435 0).f0), .slice A455_1 ((rd_T38 t435 0).f1).length c455_1] (fun k_ => some k_ ≠ (.slice Ao84 t438.length co84 : Value).ownBlock ∧ some k_ ≠ (.slice Ao82 t442.length co82 : Value).ownBlock ∧ k_ ≠ gb445) (fun k_ => ((fun k_ => some k_ ≠ (.slice Ao84 t438.length co84 : Value).ownBlock ∧ some k_ ≠ (.slice Ao82 t442.length co82 : Value).ownBlock ∧ k_ ≠ gb445)) k_ ∧ some k_ ≠ (v453 : Value).ownBlock) rfl rfl ?aP (fun _ hk => hk) ?aF ?aO ?aB ?aS ?aL ?_; (case aP => exact (k38_mkF _ _ (⟨(rd_T38 t435 0).f0, (rd_T38 t435 0).f1⟩ : S38) (Kd.V_reads' (Kd.V_mono (ok' := (fun k_ => ((fun k_ => some k_ ≠ (.slice Ao84 t438.length co84 : Value).ownBlock ∧ some k_ ≠ (.slice Ao82 t442.length co82 : Value).ownBlock ∧ k_ ≠ gb445)) k_ ∧ some k_ ≠ (v453 : Value).ownBlock)) (HL455_1.out) (fun k_ hk => ⟨⟨hk.1.1.1, ⟨hk.1.1.2.1, hk.1.1.2.2⟩⟩, hk.1.2⟩))).2.1 (Kd.V_F (Kd.V_mono (ok' := (fun k_ => ((fun k_ => some k_ ≠ (.slice Ao84 t438.length co84 : Value).ownBlock ∧ some k_ ≠ (.slice Ao82 t442.length co82 : Value).ownBlock ∧ k_ ≠ gb445)) k_ ∧ some k_ ≠ (v453 : Value).ownBlock)) (HL455_1.out) (fun k_ hk => ⟨⟨hk.1.1.1, ⟨hk.1.1.2.1, hk.1.1.2.2⟩⟩, hk.1.2⟩))))); (case aB => exact (at_ HB.out)); (case aF => exact (fun k_ hk => ⟨Kd.fresh' (Kd.R_lt (Kd.R_below HO440.out lt_)) k_ hk, Kd.fresh' (Kd.R_lt (Kd.R_below HO444.out lt_)) k_ hk, Kd.freshB (g := gb445) (o := .cells #[.int .i64 t441, .slice Ao82 t442.length co82] 51 (0, 0)) (bk_ BK445.out) k_ hk⟩)); (case aO => exact (Kd.N_below HO454.out lt_)); (case aS => exact (below_size (at_ HB.out))); (case aL => have := LMc20.out; omega); intro v457 w56 ho hb hg hat; rw [← Ny456.out] at ho; replace HO437 := mk_ (Kd.N_afterv (ok := (fun k_ => some k_ ≠ (.slice Ao84 t438.length co84 : Value).ownBlock ∧ some k_ ≠ (.slice Ao82 t442.length co82 : Value).ownBlock ∧ k_ ≠ gb445)) (Kd.N_below HO437.out lt_) hg hat); replace HO440 := mk_ (Kd.R_over' (Kd.R_below HO440.out lt_) (Kd.N_typed (Kd.N_below HO454.out lt_)) (by decide) hg); replace HB := mk_ (hb); have HO458 := mk_ (ho); (try clear HO444 BK445 HL455_1 HO454); clear ho hb hg hat) | ((with_reducible refine gate_callee (f := 44) rfl ?_); refine goesL_ (some 49) rfl rfl Try.func44 (by kernel_rfl) rfl #[.int .i64 t434, .slice (some ad455) t435.length co83, .slice Ao84 t438.length co84] rfl gl_ ?_; (with_reducible refine (impl_FollowsFrom.calls k t434 _ _ t435 _ _ t438 true _ ?side1 ?side2 ?side3 ?side4 A21.out).mono ?_); (case side1 => exact Kd.C_below (Kd.N_reads' HO437.out).2.2 lt_); (case side2 => exact (Kd.N_reads' HO437.out).2.1); (case side3 => exact Kd.C_below (Kd.R_reads' HO440.out).2.2 lt_); (case side4 => exact (Kd.R_reads' HO440.out).2.1); rintro e w57 ⟨rfl, hb⟩; refine ⟨_, rfl, ?_⟩; replace HO458 := mk_ (Kd.N_below (Kd.N_below HO458.out lt_) hb); replace HB := mk_ (below_step (at_ HB.out) hb); (try clear HO437 HO440 HO444 HL455_1 BK445); (try clear hb); obtain ⟨Ao58, co58, eo58⟩ := Kd.N_slice HO458.out; subst eo58) | (go_at_call 27; (with_reducible refine (spec_StoryOk.calls k t434 _ _ y456 false _ ?side1 ?side2 A23.out).mono ?_); (case side1 => exact Kd.C_below (Kd.N_reads' HO458.out).2.2 lt_); (case side2 => exact (Kd.N_reads' HO458.out).2.1); rintro e w59 ⟨rfl, hb⟩; replace HB := mk_ (below_step (at_ HB.out) hb); (try clear HO437 HO440 HO444 HL455_1 HO458 BK445); (try clear hb)))
  go_ret
  exact ⟨er_, at_ HB.out⟩
 subst c24
 rw [if_pos rfl] at H
 replace H := Option.bind_eq_some_iff.mp H
 obtain ⟨t461, A250, H⟩ := H
 replace H : (some t461) = some true := H
 have A25 := mk_ A250
 clear A250
 first | (obtain rfl := Option.some.inj H) | clear H
 (have p455 : 0 ≤ (0 : Int) := (by omega); have q455 : 0 < (t435.length : Int) := oa_; obtain ⟨ad455, A455_1, c455_1, e455, hx455_0, hx455_1, hl455_1, hi455_1⟩ := at_T38 (Kd.N_reads' HO437.out).2.2 0 p455 q455; cases e455; obtain ⟨ce455, hce455, hMe455, hcc455⟩ := Kd.N_get HO437.out z38 0 p455 (by first | exact q455 | exact oa_ | (have e_ := (Kd.N_reads' HO437.out).1; omega)); obtain ⟨ua455_1, uc455_1, rfl, ul455_1, ge455_1⟩ := k38_openF hMe455; have hv455_1 := hcc455 1 _ rfl; rw [add_field _ _ 1 (by omega)] at hv455_1; replace hv455_1 := Option.some.inj (hv455_1.symm.trans hx455_1); injection hv455_1 with hva_ hvn_ hvc_; rw [hva_] at ge455_1; rw [hvc_] at ul455_1; have HL455_1 := mk_ (show Kd.V k47 47 _ w.heap.size _ _ ((rd_T38 t435 0).f1) from Kd.V_mk ul455_1 ge455_1); clear hva_ hvn_ hvc_ ge455_1 ul455_1; clear hcc455 hce455; have qi455 : (0 < t435.length) = True := eq_true (by omega); (try rw [show ((0 : Int)).toNat = 0 from rfl] at hx455_0); (try rw [show 0 * 2 = 0 from rfl] at hx455_0); (try rw [Addr.add_zero'] at hx455_0); (try rw [show ((0 : Int)).toNat = 0 from rfl] at hx455_1); (try rw [show 0 * 2 = 0 from rfl] at hx455_1); (try rw [Addr.add_zero'] at hx455_1); have HR455_1 := mk_ hi455_1; have HC455_1 := mk_ hl455_1; clear hi455_1 hl455_1; replace p455 := eq_true p455; replace q455 := eq_true q455)
 go_wp2_with (first | ((with_reducible refine gate_builtin (b := .append) (xs := #[.tmp 40, .tmp 44]) rfl ?_); at_builtin; refine Kd.N_append k38 (w0 := w) w.heap.size rfl (.tmp 40) (.tmp 44) 25 38 (.agg #[(.int .i64 0), (.slice none 0 0)]) 32 rfl Try.underlying25 info38 rfl (by decide) (by omega) v453 y452 (⟨(rd_T38 t435 0).f0, (rd_T38 t435 0).f1⟩ : S38) [.int .i64 ((rd_T38 t435 0).f0), .slice A455_1 ((rd_T38 t435 0).f1).length c455_1] (fun k_ => some k_ ≠ (.slice Ao84 t438.length co84 : Value).ownBlock ∧ some k_ ≠ (.slice Ao82 t442.length co82 : Value).ownBlock ∧ k_ ≠ gb445) (fun k_ => ((fun k_ => some k_ ≠ (.slice Ao84 t438.length co84 : Value).ownBlock ∧ some k_ ≠ (.slice Ao82 t442.length co82 : Value).ownBlock ∧ k_ ≠ gb445)) k_ ∧ some k_ ≠ (v453 : Value).ownBlock) rfl rfl ?aP (fun _ hk => hk) ?aF ?aO ?aB ?aS ?aL ?_; (case aP => exact (k38_mkF _ _ (⟨(rd_T38 t435 0).f0, (rd_T38 t435 0).f1⟩ : S38) (Kd.V_reads' (Kd.V_mono (ok' := (fun k_ => ((fun k_ => some k_ ≠ (.slice Ao84 t438.length co84 : Value).ownBlock ∧ some k_ ≠ (.slice Ao82 t442.length co82 : Value).ownBlock ∧ k_ ≠ gb445)) k_ ∧ some k_ ≠ (v453 : Value).ownBlock)) (HL455_1.out) (fun k_ hk => ⟨⟨hk.1.1.1, ⟨hk.1.1.2.1, hk.1.1.2.2⟩⟩, hk.1.2⟩))).2.1 (Kd.V_F (Kd.V_mono (ok' := (fun k_ => ((fun k_ => some k_ ≠ (.slice Ao84 t438.length co84 : Value).ownBlock ∧ some k_ ≠ (.slice Ao82 t442.length co82 : Value).ownBlock ∧ k_ ≠ gb445)) k_ ∧ some k_ ≠ (v453 : Value).ownBlock)) (HL455_1.out) (fun k_ hk => ⟨⟨hk.1.1.1, ⟨hk.1.1.2.1, hk.1.1.2.2⟩⟩, hk.1.2⟩))))); (case aB => exact (at_ HB.out)); (case aF => exact (fun k_ hk => ⟨Kd.fresh' (Kd.R_lt (Kd.R_below HO440.out lt_)) k_ hk, Kd.fresh' (Kd.R_lt (Kd.R_below HO444.out lt_)) k_ hk, Kd.freshB (g := gb445) (o := .cells #[.int .i64 t441, .slice Ao82 t442.length co82] 51 (0, 0)) (bk_ BK445.out) k_ hk⟩)); (case aO => exact (Kd.N_below HO454.out lt_)); (case aS => exact (below_size (at_ HB.out))); (case aL => have := LMc20.out; omega); intro v457 w38 ho hb hg hat; rw [← Ny456.out] at ho; replace HO437 := mk_ (Kd.N_afterv (ok := (fun k_ => some k_ ≠ (.slice Ao84 t438.length co84 : Value).ownBlock ∧ some k_ ≠ (.slice Ao82 t442.length co82 : Value).ownBlock ∧ k_ ≠ gb445)) (Kd.N_below HO437.out lt_) hg hat); replace HO440 := mk_ (Kd.R_over' (Kd.R_below HO440.out lt_) (Kd.N_typed (Kd.N_below HO454.out lt_)) (by decide) hg); replace HO444 := mk_ (Kd.R_over' (Kd.R_below HO444.out lt_) (Kd.N_typed (Kd.N_below HO454.out lt_)) (by decide) hg); replace BK445 := mk_ (blk_grown (g := gb445) (o := .cells #[.int .i64 t441, .slice Ao82 t442.length co82] 51 (0, 0)) (bk_ BK445.out) hg (Kd.N_ne HO454.out BK445.out (by decide))); replace HB := mk_ (hb); have HO458 := mk_ (ho); (try clear HL455_1 HO454); clear ho hb hg hat) | ((with_reducible refine gate_callee (f := 44) rfl ?_); refine goesL_ (some 49) rfl rfl Try.func44 (by kernel_rfl) rfl #[.int .i64 t434, .slice (some ad455) t435.length co83, .slice Ao84 t438.length co84] rfl gl_ ?_; (with_reducible refine (impl_FollowsFrom.calls k t434 _ _ t435 _ _ t438 true _ ?side1 ?side2 ?side3 ?side4 A21.out).mono ?_); (case side1 => exact Kd.C_below (Kd.N_reads' HO437.out).2.2 lt_); (case side2 => exact (Kd.N_reads' HO437.out).2.1); (case side3 => exact Kd.C_below (Kd.R_reads' HO440.out).2.2 lt_); (case side4 => exact (Kd.R_reads' HO440.out).2.1); rintro e w39 ⟨rfl, hb⟩; refine ⟨_, rfl, ?_⟩; replace HO440 := mk_ (Kd.R_below (Kd.R_below HO440.out lt_) hb); replace HO444 := mk_ (Kd.R_below (Kd.R_below HO444.out lt_) hb); replace HO458 := mk_ (Kd.N_below (Kd.N_below HO458.out lt_) hb); replace BK445 := mk_ (blk_at BK445.out hb); replace HB := mk_ (below_step (at_ HB.out) hb); (try clear HO437 HL455_1); (try clear hb); obtain ⟨Ao40, co40, eo40⟩ := Kd.N_slice HO458.out; subst eo40) | (go_at_call 27; (with_reducible refine (spec_StoryOk.calls k t434 _ _ y456 true _ ?side1 ?side2 A23.out).mono ?_); (case side1 => exact Kd.C_below (Kd.N_reads' HO458.out).2.2 lt_); (case side2 => exact (Kd.N_reads' HO458.out).2.1); rintro e w41 ⟨rfl, hb⟩; replace HO440 := mk_ (Kd.R_below (Kd.R_below HO440.out lt_) hb); replace HO444 := mk_ (Kd.R_below (Kd.R_below HO444.out lt_) hb); replace HO458 := mk_ (Kd.N_below (Kd.N_below HO458.out lt_) hb); replace BK445 := mk_ (blk_at BK445.out hb); replace HB := mk_ (below_step (at_ HB.out) hb); (try clear HO437 HL455_1); (try clear hb); have hcz42_0 := blk_cell BK445.out 0; have hcz42_1 := blk_cell BK445.out 1; have hfz42_0 := blk_frozen BK445.out 0; have hfz42_1 := blk_frozen BK445.out 1) | (go_at_call 35; (with_reducible refine (impl_ProofOk.calls t434 _ _ y456 _ _ t438 t441 _ _ t442 true _ ?side1 ?side2 ?side3 ?side4 ?side5 ?side6 A25.out).mono ?_); (case side1 => exact Kd.C_below (Kd.N_reads' HO458.out).2.2 lt_); (case side2 => exact (Kd.N_reads' HO458.out).2.1); (case side3 => exact Kd.C_below (Kd.R_reads' HO440.out).2.2 lt_); (case side4 => exact (Kd.R_reads' HO440.out).2.1); (case side5 => exact Kd.C_below (Kd.R_reads' HO444.out).2.2 lt_); (case side6 => exact (Kd.R_reads' HO444.out).2.1); rintro e w43 ⟨rfl, hb⟩; replace HB := mk_ (below_step (at_ HB.out) hb); (try clear HO437 HO440 HO444 HL455_1 HO458 BK445); (try clear hb)))
 go_ret
 exact ⟨er_, at_ HB.out⟩
/-- THE ONE PURE STATEMENT of laws_FnProofOk: yours. -/
noncomputable def laws_FnProofOk.Pure : Prop := ∀ (l0 : List Int), l0.length ≤ maxLen → l0.length * 1 ≤ 140737488351232 → (∀ x ∈ l0, (Lit.int .u8 x).wf = true) → ∃ k, laws_FnProofOk.f k l0 = some true
theorem laws_FnProofOk.walk (P : laws_FnProofOk.Pure) (a0 : Option Addr) (len0 cap0 : Nat) (z0 : List Int) (w : World) (w0 : (a0 = none ∧ len0 = 0 ∧ cap0 = 0 ∧ z0 = []) ∨ ∃ x, a0 = some x ∧ len0 ≤ cap0 ∧ cap0 ≤ maxLen ∧ z0.length = cap0 ∧ (∀ i, i < z0.length → w.cell? (x.add i) = some (.int .u8 (z0.getD i 0))) ∧ ∀ n ∈ z0, (Lit.int .u8 n).wf = true) (y0 : len0 * 1 ≤ 140737488351232) :
  Calls Try.prog 11 #[.slice a0 len0 cap0] w fun e w' => e = .returned (.bool true) ∧ Below w.heap.size w w' := by
 obtain ⟨l0, rfl, hr0, hm0, hw0, hc0⟩ := ReadsInt.ofRowC w0
 obtain ⟨k, h⟩ := P l0 hm0 y0 hw0
 refine (laws_FnProofOk.calls k _ _ l0 true w (Kd.C_of_reads (d := (0 : Int)) (h1 := fun _ => rfl) hr0) hc0 h rfl).mono ?_
 rintro e w' ⟨rfl, hd⟩
 exact ⟨rfl, hd⟩
end Go.Proofs.Ytcaogllnbpmcgaa.P

/- Go's functions come to just the answers of the Lean functions told here. -/
import Derived.Test.YtcaogllnbpmcgaaPx20
namespace Go.Proofs.Ytcaogllnbpmcgaa.P
open Go.RowKit Go.Proofs.YtcaogllnbpmcgaaW.PrintWords Go.Proofs.YtcaogllnbpmcgaaW.PrintLast Go.Proofs.YtcaogllnbpmcgaaW.PrintMore
attribute [local go_sem] max2_int min2_int max_two min_two max_three min_three max_four min_four
set_option linter.unusedVariables false
set_option linter.unusedSimpArgs false
def spec_l20Claim.f (k : Nat) (s0_0 : List Int) (s0_1 : Int) (a1 : Int) (a2 : Int) : Option (Int × (List (S47)) × Int) := (spec_l20Rd_pick.f k s0_0 s0_1 (mx a1 1)).bind fun bt301 => ((spec_l20Term.f k s0_0 bt301.2 a1 (wrap64 (a2 * 2))).bind fun bt303 => ((spec_l20Rd_odd.f k s0_0 bt303.2 a2).bind fun bt308 => (if bt308.1 = true then ((some (([(-1), 4] : List Int) : List Int)).bind fun y310 => ((spec_l20Rd_pick.f k s0_0 bt308.2 2).bind fun bt313 => (if 0 ≤ bt313.1 then (if bt313.1 < (y310.length : Int) then (some (rd y310 bt313.1, bt303.1, bt313.2)) else (none)) else (none)))) else (some (bt301.1, bt303.1, bt308.2)))))
set_option maxHeartbeats 8000000 in
set_option maxRecDepth 100000 in
theorem spec_l20Claim.calls (k : Nat) (g : Nat) (s0_0 : List Int) (s0_1 : Int) (a1 : Int) (a2 : Int) (r1 : Int) (r2 : List (S47)) (r3 : Int) (w0 w : World) (hI : IsS117 w0 w g s0_0 s0_1) (hB : Below w0.heap.size w0 w) (h : spec_l20Claim.f k s0_0 s0_1 a1 a2 = some (r1, r2, r3)) :
  Calls Try.prog 87 #[.pointer (some ⟨g, 0, none⟩), .int .i64 a1, .int .i64 a2] w fun e w' => ∃ v1_ : Value, e = .returned (.agg #[.int .i64 r1, v1_]) ∧ Kd.R k47 47 w' w.heap.size (fun _ => True) v1_ r2 ∧ IsS117 w0 w' g s0_0 r3 ∧ Below w0.heap.size w0 w' ∧ KeepBut w w' g none := by
 have hu38 := Try.underlying38
 have HI0 := mk_ hI
 have HK := mk_ (KeepBut.refl w g none)
 have HL := mk_ hB.size
 clear hI
 have HW0 := mk_ hB.size
 have HB := mk_ hB
 clear hB
 unfold spec_l20Claim.f at h
 have H := h
 clear h
 obtain ⟨ji4, hji4⟩ : ∃ j_ : Int, (mx a1 1) = j_ := ⟨_, rfl⟩
 first | rw [hji4] at H | simp only [hji4] at H
 (try (have hji4l : 1 ≤ ji4 := by (rw [← hji4]; unfold mx; (repeat' split) <;> omega)))
 (try (have hji4m : 0 ≤ ji4 := by omega))
 have hji4_ : (if a1 < 1 then 1 else a1) = ji4 := hji4
 replace H := Option.bind_eq_some_iff.mp H
 obtain ⟨⟨t301, t302⟩, A50, H⟩ := H
 try dsimp only at H
 have A5 := mk_ A50
 clear A50
 replace H := Option.bind_eq_some_iff.mp H
 obtain ⟨⟨t303, t306⟩, A60, H⟩ := H
 try dsimp only at H
 have A6 := mk_ A60
 clear A60
 replace H := Option.bind_eq_some_iff.mp H
 obtain ⟨⟨t308, t309⟩, A70, H⟩ := H
 try dsimp only at H
 have A7 := mk_ A70
 clear A70
 by_cases c8 : t308 = true
 rotate_left
 ·replace c8 := Bool.eq_false_iff.mpr c8
  subst c8
  rw [if_neg Bool.false_ne_true] at H
  simp only [Option.some.injEq, Prod.mk.injEq] at H
  obtain ⟨rfl, rfl, rfl⟩ := H
  go_enter Try.func87, Try.ntmps87
  go_wp2_with (first | ((with_reducible refine gate_dst (N := 6) rfl ?_); refine bx_ 6 #[.int .i64 0, .slice none 0 0] 38 ?_; intro gb300 hg w28 hbox hb; replace HB := mk_ (below_step (below_at HB.out) hb); have BK300 := mk_ (hbox); have GW300 := mk_ ((by rw [hg]; exact (keep_size (w := w) (g := g) (row := none) (keep_at HK.out)) : w.heap.size ≤ gb300)); have GE300 := mk_ ((Nat.le_trans HW0.out (by rw [hg]; exact (keep_size (w := w) (g := g) (row := none) (keep_at HK.out)) : w.heap.size ≤ gb300) : w0.heap.size ≤ gb300)); replace HK := mk_ (KeepBut.trans (keep_at HK.out) (KeepBut.of_below hb g none) (.inl rfl)); have NB0_300 := mk_ ((by rw [hg]; exact Nat.ne_of_lt (IsS117.lt (show IsS117 w0 _ g s0_0 s0_1 from IsS117.below HI0.out lt_)) : g ≠ gb300)); have NB300_0 := mk_ ((by rw [hg]; exact Nat.ne_of_gt (IsS117.lt (show IsS117 w0 _ g s0_0 s0_1 from IsS117.below HI0.out lt_)) : gb300 ≠ g)); replace HI0 := mk_ (IsS117.below (IsS117.below HI0.out lt_) hb); clear hb hbox hg) | ((with_reducible refine gate_callee (f := 60) rfl ?_); refine goesL_ (some 11) rfl rfl Try.func60 (by kernel_rfl) rfl #[.pointer (some ⟨g, 0, none⟩), .int .i64 ji4] rfl (by (try simp only [List.map_toArray, List.map_cons, List.map_nil]); first | done | (simp only [hji4]; rfl) | rfl | (simp only [List.length_drop, List.length_take]; rfl)) ?_; (with_reducible refine (spec_l20Rd_pick.calls k g s0_0 s0_1 ji4 t301 t302 w0 _ ?side1 ?side2 A5.out).mono ?_); (case side1 => repeat (first | (with_reducible first | exact HI0.out | apply IsS117.alloc | apply IsS117.drewN | apply IsS117.drew | apply IsS117.set_1 | refine IsS117.far ?_ NB0_300.out _) | exact HI0.out)); (case side2 => repeat (first | (with_reducible first | exact HB.out | apply below_alloc | apply pw_below_drewN | apply below_drew1 | refine below_set ?_ (IsS117.ge HI0.out) | refine below_set ?_ GE300.out) | exact HB.out)); rintro e w29 ⟨rfl, hi, hb, hk⟩; refine ⟨_, rfl, ?_⟩; replace BK300 := mk_ (KeepBut.blk hk (g' := gb300) (o := .cells #[.int .i64 0, .slice none 0 0] 38 (0, 0)) (bk_ BK300.out) NB300_0.out (by simp)); replace HK := mk_ (KeepBut.trans (by repeat (first | (with_reducible first | exact HK.out | apply KeepBut.set_ | apply keep_drewN | apply keep_drew | apply keep_alloc | refine keep_far ?_ GW300.out _) | exact HK.out)) hk (.inl rfl)); replace HB := mk_ (hb); replace HI0 := mk_ (hi); (try clear hb)) | ((with_reducible refine gate_callee (f := 90) rfl ?_); refine goesL_ (some 16) rfl rfl Try.func90 (by kernel_rfl) rfl #[.pointer (some ⟨g, 0, none⟩), .int .i64 a1, .int .i64 (wrap64 (a2 * 2))] rfl gl_ ?_; (with_reducible refine (spec_l20Term.calls k g s0_0 t302 a1 (wrap64 (a2 * 2)) t303 t306 w0 _ ?side1 ?side2 A6.out).mono ?_); (case side1 => repeat (first | (with_reducible first | exact HI0.out | apply IsS117.alloc | apply IsS117.drewN | apply IsS117.drew | apply IsS117.set_1 | refine IsS117.far ?_ NB0_300.out _) | exact HI0.out)); (case side2 => repeat (first | (with_reducible first | exact HB.out | apply below_alloc | apply pw_below_drewN | apply below_drew1 | refine below_set ?_ (IsS117.ge HI0.out) | refine below_set ?_ GE300.out) | exact HB.out)); rintro e w30 ⟨v304, rfl, ho0, hi, hb, hk⟩; refine ⟨_, rfl, ?_⟩; replace BK300 := mk_ (KeepBut.blk hk (g' := gb300) (o := .cells #[.int .i64 0, .slice none 0 0] 38 (0, 0)) (bk_ BK300.out) NB300_0.out (by simp)); have HO305 := mk_ (Kd.R_lower ho0 (keep_size (w := w) (g := g) (row := none) (by repeat (first | (with_reducible first | exact HK.out | apply KeepBut.set_ | apply keep_drewN | apply keep_drew | apply keep_alloc | refine keep_far ?_ GW300.out _) | exact HK.out)))); replace HK := mk_ (KeepBut.trans (by repeat (first | (with_reducible first | exact HK.out | apply KeepBut.set_ | apply keep_drewN | apply keep_drew | apply keep_alloc | refine keep_far ?_ GW300.out _) | exact HK.out)) hk (.inl rfl)); replace HB := mk_ (hb); replace HI0 := mk_ (hi); (try clear hb); (try clear ho0); obtain ⟨Ao31, co31, eo31⟩ := Kd.R_slice HO305.out; subst eo31) | ((with_reducible refine gate_dst (N := 7) rfl ?_); refine bx_ 7 #[.int .i64 0, .slice none 0 0] 38 ?_; intro gb307 hg w32 hbox hb; replace HO305 := mk_ (Kd.R_below (Kd.R_below HO305.out lt_) hb); replace HB := mk_ (below_step (by repeat (first | (with_reducible first | exact HB.out | apply below_alloc | apply pw_below_drewN | apply below_drew1 | refine below_set ?_ (IsS117.ge HI0.out) | refine below_set ?_ GE300.out) | exact HB.out)) hb); have BK307 := mk_ (hbox); have GW307 := mk_ ((by rw [hg]; exact (keep_size (w := w) (g := g) (row := none) (by repeat (first | (with_reducible first | exact HK.out | apply KeepBut.set_ | apply keep_drewN | apply keep_drew | apply keep_alloc | refine keep_far ?_ GW300.out _) | exact HK.out))) : w.heap.size ≤ gb307)); have GE307 := mk_ ((Nat.le_trans HW0.out (by rw [hg]; exact (keep_size (w := w) (g := g) (row := none) (by repeat (first | (with_reducible first | exact HK.out | apply KeepBut.set_ | apply keep_drewN | apply keep_drew | apply keep_alloc | refine keep_far ?_ GW300.out _) | exact HK.out))) : w.heap.size ≤ gb307) : w0.heap.size ≤ gb307)); replace HK := mk_ (KeepBut.trans (by repeat (first | (with_reducible first | exact HK.out | apply KeepBut.set_ | apply keep_drewN | apply keep_drew | apply keep_alloc | refine keep_far ?_ GW300.out _) | exact HK.out)) (KeepBut.of_below hb g none) (.inl rfl)); have NB300_307 := mk_ ((by rw [hg]; exact Nat.ne_of_lt (blk_lt (g := gb300) (o := .cells #[.int .i64 0, .slice none 0 0] 38 (0, 0)) (bk_ BK300.out)) : gb300 ≠ gb307)); have NB307_300 := mk_ ((by rw [hg]; exact Nat.ne_of_gt (blk_lt (g := gb300) (o := .cells #[.int .i64 0, .slice none 0 0] 38 (0, 0)) (bk_ BK300.out)) : gb307 ≠ gb300)); replace BK300 := mk_ (blk_below (g := gb300) (o := .cells #[.int .i64 0, .slice none 0 0] 38 (0, 0)) (bk_ BK300.out) hb); have NB0_307 := mk_ ((by rw [hg]; exact Nat.ne_of_lt (IsS117.lt (show IsS117 w0 _ g s0_0 t306 from by repeat (first | (with_reducible first | exact HI0.out | apply IsS117.alloc | apply IsS117.drewN | apply IsS117.drew | apply IsS117.set_1 | refine IsS117.far ?_ NB0_300.out _) | exact HI0.out))) : g ≠ gb307)); have NB307_0 := mk_ ((by rw [hg]; exact Nat.ne_of_gt (IsS117.lt (show IsS117 w0 _ g s0_0 t306 from by repeat (first | (with_reducible first | exact HI0.out | apply IsS117.alloc | apply IsS117.drewN | apply IsS117.drew | apply IsS117.set_1 | refine IsS117.far ?_ NB0_300.out _) | exact HI0.out))) : gb307 ≠ g)); replace HI0 := mk_ (IsS117.below (by repeat (first | (with_reducible first | exact HI0.out | apply IsS117.alloc | apply IsS117.drewN | apply IsS117.drew | apply IsS117.set_1 | refine IsS117.far ?_ NB0_300.out _) | exact HI0.out)) hb); clear hb hbox hg; have hnb33 := NB307_300.out; have hnc33 := NB300_307.out; have hnb34 := NB307_0.out; have hnc34 := NB0_307.out; have hcz35_0 : w32.cell? ⟨gb307, 0, none⟩ = some (.int .i64 0) := (blk_cell BK307.out 0).trans rfl; have hcz35_1 : w32.cell? ⟨gb307, 1, none⟩ = some (.slice none 0 0) := (blk_cell BK307.out 1).trans rfl; have hfz35_0 := blk_frozen BK307.out 0; have hfz35_1 := blk_frozen BK307.out 1) | ((with_reducible refine gate_callee (f := 88) rfl ?_); refine goesL_ (some 20) rfl rfl Try.func88 (by kernel_rfl) rfl #[.pointer (some ⟨g, 0, none⟩), .int .i64 a2] rfl gl_ ?_; (with_reducible refine (spec_l20Rd_odd.calls k g s0_0 t306 a2 false t309 w0 _ ?side1 ?side2 A7.out).mono ?_); (case side1 => repeat (first | (with_reducible first | exact HI0.out | apply IsS117.alloc | apply IsS117.drewN | apply IsS117.drew | apply IsS117.set_1 | refine IsS117.far ?_ NB0_300.out _ | refine IsS117.far ?_ NB0_307.out _) | exact HI0.out)); (case side2 => repeat (first | (with_reducible first | exact HB.out | apply below_alloc | apply pw_below_drewN | apply below_drew1 | refine below_set ?_ (IsS117.ge HI0.out) | refine below_set ?_ GE300.out | refine below_set ?_ GE307.out) | exact HB.out)); rintro e w36 ⟨rfl, hi, hb, hk⟩; refine ⟨_, rfl, ?_⟩; replace BK300 := mk_ (KeepBut.blk hk (g' := gb300) (o := .cells #[.int .i64 0, .slice none 0 0] 38 (0, 0)) (by refine bs_ ?_; refine blk_far ?_ NB300_307.out _; refine bs_ ?_; refine blk_far ?_ NB300_307.out _; refine bs_ ?_; exact BK300.out) NB300_0.out (by simp)); replace HO305 := mk_ (Kd.R_mono (Kd.R_keep (IsS117.apart (show IsS117 w0 _ g s0_0 t306 from by repeat (first | (with_reducible first | exact HI0.out | apply IsS117.alloc | apply IsS117.drewN | apply IsS117.drew | apply IsS117.set_1 | refine IsS117.far ?_ NB0_300.out _ | refine IsS117.far ?_ NB0_307.out _) | exact HI0.out)) (by (with_reducible repeat (first | apply Kd.R_alloc | apply Kd.R_drewN | apply Kd.R_drew)); exact (Kd.R_mono (Kd.R_far (p := ⟨gb307, 1, none⟩) (Kd.R_far (p := ⟨gb307, 0, none⟩) (Kd.R_types HO305.out BK307.out (by decide)) (fun _ hk => hk.2) (.int .i64 t301)) (fun _ hk => hk.2) (.slice Ao31 t303.length co31)) (fun _ h_ => h_.1))) (by decide)) hk (fun _ h => h.2)) (fun _ h => h.1)); replace BK307 := mk_ (KeepBut.blk hk (g' := gb307) (o := .cells #[.int .i64 t301, .slice Ao31 t303.length co31] 38 (0, 0)) (by refine bs_ ?_; refine blk_put (cs := #[.int .i64 t301, .slice none 0 0]) ?_ 1 _ rfl; refine bs_ ?_; refine blk_put (cs := #[.int .i64 0, .slice none 0 0]) ?_ 0 _ rfl; refine bs_ ?_; exact BK307.out) NB307_0.out (by simp)); replace HK := mk_ (KeepBut.trans (by repeat (first | (with_reducible first | exact HK.out | apply KeepBut.set_ | apply keep_drewN | apply keep_drew | apply keep_alloc | refine keep_far ?_ GW300.out _ | refine keep_far ?_ GW307.out _) | exact HK.out)) hk (.inl rfl)); replace HB := mk_ (hb); replace HI0 := mk_ (hi); (try clear hb); have hcz37_0 : w36.cell? ⟨gb307, 0, none⟩ = some (.int .i64 t301) := (blk_cell BK307.out 0).trans rfl; have hcz37_1 : w36.cell? ⟨gb307, 1, none⟩ = some (.slice Ao31 t303.length co31) := (blk_cell BK307.out 1).trans rfl; have hfz37_0 := blk_frozen BK307.out 0; have hfz37_1 := blk_frozen BK307.out 1; have hnb38 := NB300_0.out; have hnc38 := NB0_300.out; have hcz39_0 : w36.cell? ⟨gb300, 0, none⟩ = some (.int .i64 0) := (blk_cell BK300.out 0).trans rfl; have hcz39_1 : w36.cell? ⟨gb300, 1, none⟩ = some (.slice none 0 0) := (blk_cell BK300.out 1).trans rfl; have hfz39_0 := blk_frozen BK300.out 0; have hfz39_1 := blk_frozen BK300.out 1))
  refine bodyPost_ret (results_cell_row rfl _ _ gb300 38 #[.int .i64 t301, .slice Ao31 t303.length co31] (0, 0) _ rfl (by refine bs_ ?_; refine blk_put (cs := #[.int .i64 t301, .slice none 0 0]) ?_ 1 _ rfl; refine bs_ ?_; refine blk_put (cs := #[.int .i64 0, .slice none 0 0]) ?_ 0 _ rfl; refine bs_ ?_; exact BK300.out) Try.underlying38 rfl (by kernel_rfl)) rfl ?_
  exact ⟨_, by first | rfl | (simp [errW_none, errW_some] <;> rfl) | (simp only [← hji4]; first | rfl | (simp [errW_none, errW_some] <;> rfl)) | (simp [*, errW_none, errW_some] <;> rfl), by (with_reducible repeat (first | apply Kd.R_alloc | apply Kd.R_drewN | apply Kd.R_drew)); exact Kd.R_mono (Kd.R_far (p := ⟨gb300, 1, none⟩) (Kd.R_far (p := ⟨gb300, 0, none⟩) (Kd.R_types HO305.out BK300.out (by decide)) (fun _ hk => hk.2) (.int .i64 t301)) (fun _ hk => hk.2) (.slice Ao31 t303.length co31)) (fun _ hk => trivial), by repeat (first | (with_reducible first | exact HI0.out | apply IsS117.alloc | apply IsS117.drewN | apply IsS117.drew | apply IsS117.set_1 | refine IsS117.far ?_ NB0_300.out _ | refine IsS117.far ?_ NB0_307.out _) | exact HI0.out), by repeat (first | (with_reducible first | exact HB.out | apply below_alloc | apply pw_below_drewN | apply below_drew1 | refine below_set ?_ (IsS117.ge HI0.out) | refine below_set ?_ GE300.out | refine below_set ?_ GE307.out) | exact HB.out), by repeat (first | (with_reducible first | exact HK.out | apply KeepBut.set_ | apply keep_drewN | apply keep_drew | apply keep_alloc | refine keep_far ?_ GW300.out _ | refine keep_far ?_ GW307.out _) | exact HK.out)⟩
 subst c8
 rw [if_pos rfl] at H
 obtain ⟨y310, hy310⟩ : ∃ y_ : List Int, y_ = (([(-1), 4] : List Int)) := ⟨_, rfl⟩
 first | (replace H := bn_ hy310 H; try dsimp only at H) | rw [← hy310] at H
 have Ny310 := mk_ hy310
 clear hy310
 replace H := Option.bind_eq_some_iff.mp H
 obtain ⟨⟨t313, t314⟩, A90, H⟩ := H
 try dsimp only at H
 have A9 := mk_ A90
 clear A90
 by_cases c10 : 0 ≤ t313
 rotate_left
 ·rw [if_neg c10] at H
  exact absurd H (by simp)
 rw [if_pos c10] at H
 have c10b0 : decide (0 ≤ t313) = true := decide_eq_true c10
 clear c10
 by_cases c11 : t313 < (y310.length : Int)
 rotate_left
 ·rw [if_neg c11] at H
  exact absurd H (by simp)
 rw [if_pos c11] at H
 have c11b0 : decide (t313 < (y310.length : Int)) = true := decide_eq_true c11
 clear c11
 simp only [Option.some.injEq, Prod.mk.injEq] at H
 obtain ⟨rfl, rfl, rfl⟩ := H
 go_enter Try.func87, Try.ntmps87
 go_wp2_with (first | ((with_reducible refine gate_dst (N := 6) rfl ?_); refine bx_ 6 #[.int .i64 0, .slice none 0 0] 38 ?_; intro gb300 hg w12 hbox hb; replace HB := mk_ (below_step (below_at HB.out) hb); have BK300 := mk_ (hbox); have GW300 := mk_ ((by rw [hg]; exact (keep_size (w := w) (g := g) (row := none) (keep_at HK.out)) : w.heap.size ≤ gb300)); have GE300 := mk_ ((Nat.le_trans HW0.out (by rw [hg]; exact (keep_size (w := w) (g := g) (row := none) (keep_at HK.out)) : w.heap.size ≤ gb300) : w0.heap.size ≤ gb300)); replace HK := mk_ (KeepBut.trans (keep_at HK.out) (KeepBut.of_below hb g none) (.inl rfl)); have NB0_300 := mk_ ((by rw [hg]; exact Nat.ne_of_lt (IsS117.lt (show IsS117 w0 _ g s0_0 s0_1 from IsS117.below HI0.out lt_)) : g ≠ gb300)); have NB300_0 := mk_ ((by rw [hg]; exact Nat.ne_of_gt (IsS117.lt (show IsS117 w0 _ g s0_0 s0_1 from IsS117.below HI0.out lt_)) : gb300 ≠ g)); replace HI0 := mk_ (IsS117.below (IsS117.below HI0.out lt_) hb); clear hb hbox hg) | ((with_reducible refine gate_callee (f := 60) rfl ?_); refine goesL_ (some 11) rfl rfl Try.func60 (by kernel_rfl) rfl #[.pointer (some ⟨g, 0, none⟩), .int .i64 ji4] rfl (by (try simp only [List.map_toArray, List.map_cons, List.map_nil]); first | done | (simp only [hji4]; rfl) | rfl | (simp only [List.length_drop, List.length_take]; rfl)) ?_; (with_reducible refine (spec_l20Rd_pick.calls k g s0_0 s0_1 ji4 t301 t302 w0 _ ?side1 ?side2 A5.out).mono ?_); (case side1 => repeat (first | (with_reducible first | exact HI0.out | apply IsS117.alloc | apply IsS117.drewN | apply IsS117.drew | apply IsS117.set_1 | refine IsS117.far ?_ NB0_300.out _) | exact HI0.out)); (case side2 => repeat (first | (with_reducible first | exact HB.out | apply below_alloc | apply pw_below_drewN | apply below_drew1 | refine below_set ?_ (IsS117.ge HI0.out) | refine below_set ?_ GE300.out) | exact HB.out)); rintro e w13 ⟨rfl, hi, hb, hk⟩; refine ⟨_, rfl, ?_⟩; replace BK300 := mk_ (KeepBut.blk hk (g' := gb300) (o := .cells #[.int .i64 0, .slice none 0 0] 38 (0, 0)) (bk_ BK300.out) NB300_0.out (by simp)); replace HK := mk_ (KeepBut.trans (by repeat (first | (with_reducible first | exact HK.out | apply KeepBut.set_ | apply keep_drewN | apply keep_drew | apply keep_alloc | refine keep_far ?_ GW300.out _) | exact HK.out)) hk (.inl rfl)); replace HB := mk_ (hb); replace HI0 := mk_ (hi); (try clear hb)) | ((with_reducible refine gate_callee (f := 90) rfl ?_); refine goesL_ (some 16) rfl rfl Try.func90 (by kernel_rfl) rfl #[.pointer (some ⟨g, 0, none⟩), .int .i64 a1, .int .i64 (wrap64 (a2 * 2))] rfl gl_ ?_; (with_reducible refine (spec_l20Term.calls k g s0_0 t302 a1 (wrap64 (a2 * 2)) t303 t306 w0 _ ?side1 ?side2 A6.out).mono ?_); (case side1 => repeat (first | (with_reducible first | exact HI0.out | apply IsS117.alloc | apply IsS117.drewN | apply IsS117.drew | apply IsS117.set_1 | refine IsS117.far ?_ NB0_300.out _) | exact HI0.out)); (case side2 => repeat (first | (with_reducible first | exact HB.out | apply below_alloc | apply pw_below_drewN | apply below_drew1 | refine below_set ?_ (IsS117.ge HI0.out) | refine below_set ?_ GE300.out) | exact HB.out)); rintro e w14 ⟨v304, rfl, ho0, hi, hb, hk⟩; refine ⟨_, rfl, ?_⟩; replace BK300 := mk_ (KeepBut.blk hk (g' := gb300) (o := .cells #[.int .i64 0, .slice none 0 0] 38 (0, 0)) (bk_ BK300.out) NB300_0.out (by simp)); have HO305 := mk_ (Kd.R_lower ho0 (keep_size (w := w) (g := g) (row := none) (by repeat (first | (with_reducible first | exact HK.out | apply KeepBut.set_ | apply keep_drewN | apply keep_drew | apply keep_alloc | refine keep_far ?_ GW300.out _) | exact HK.out)))); replace HK := mk_ (KeepBut.trans (by repeat (first | (with_reducible first | exact HK.out | apply KeepBut.set_ | apply keep_drewN | apply keep_drew | apply keep_alloc | refine keep_far ?_ GW300.out _) | exact HK.out)) hk (.inl rfl)); replace HB := mk_ (hb); replace HI0 := mk_ (hi); (try clear hb); (try clear ho0); obtain ⟨Ao15, co15, eo15⟩ := Kd.R_slice HO305.out; subst eo15) | ((with_reducible refine gate_dst (N := 7) rfl ?_); refine bx_ 7 #[.int .i64 0, .slice none 0 0] 38 ?_; intro gb307 hg w16 hbox hb; replace HO305 := mk_ (Kd.R_below (Kd.R_below HO305.out lt_) hb); replace HB := mk_ (below_step (by repeat (first | (with_reducible first | exact HB.out | apply below_alloc | apply pw_below_drewN | apply below_drew1 | refine below_set ?_ (IsS117.ge HI0.out) | refine below_set ?_ GE300.out) | exact HB.out)) hb); have BK307 := mk_ (hbox); have GW307 := mk_ ((by rw [hg]; exact (keep_size (w := w) (g := g) (row := none) (by repeat (first | (with_reducible first | exact HK.out | apply KeepBut.set_ | apply keep_drewN | apply keep_drew | apply keep_alloc | refine keep_far ?_ GW300.out _) | exact HK.out))) : w.heap.size ≤ gb307)); have GE307 := mk_ ((Nat.le_trans HW0.out (by rw [hg]; exact (keep_size (w := w) (g := g) (row := none) (by repeat (first | (with_reducible first | exact HK.out | apply KeepBut.set_ | apply keep_drewN | apply keep_drew | apply keep_alloc | refine keep_far ?_ GW300.out _) | exact HK.out))) : w.heap.size ≤ gb307) : w0.heap.size ≤ gb307)); replace HK := mk_ (KeepBut.trans (by repeat (first | (with_reducible first | exact HK.out | apply KeepBut.set_ | apply keep_drewN | apply keep_drew | apply keep_alloc | refine keep_far ?_ GW300.out _) | exact HK.out)) (KeepBut.of_below hb g none) (.inl rfl)); have NB300_307 := mk_ ((by rw [hg]; exact Nat.ne_of_lt (blk_lt (g := gb300) (o := .cells #[.int .i64 0, .slice none 0 0] 38 (0, 0)) (bk_ BK300.out)) : gb300 ≠ gb307)); have NB307_300 := mk_ ((by rw [hg]; exact Nat.ne_of_gt (blk_lt (g := gb300) (o := .cells #[.int .i64 0, .slice none 0 0] 38 (0, 0)) (bk_ BK300.out)) : gb307 ≠ gb300)); replace BK300 := mk_ (blk_below (g := gb300) (o := .cells #[.int .i64 0, .slice none 0 0] 38 (0, 0)) (bk_ BK300.out) hb); have NB0_307 := mk_ ((by rw [hg]; exact Nat.ne_of_lt (IsS117.lt (show IsS117 w0 _ g s0_0 t306 from by repeat (first | (with_reducible first | exact HI0.out | apply IsS117.alloc | apply IsS117.drewN | apply IsS117.drew | apply IsS117.set_1 | refine IsS117.far ?_ NB0_300.out _) | exact HI0.out))) : g ≠ gb307)); have NB307_0 := mk_ ((by rw [hg]; exact Nat.ne_of_gt (IsS117.lt (show IsS117 w0 _ g s0_0 t306 from by repeat (first | (with_reducible first | exact HI0.out | apply IsS117.alloc | apply IsS117.drewN | apply IsS117.drew | apply IsS117.set_1 | refine IsS117.far ?_ NB0_300.out _) | exact HI0.out))) : gb307 ≠ g)); replace HI0 := mk_ (IsS117.below (by repeat (first | (with_reducible first | exact HI0.out | apply IsS117.alloc | apply IsS117.drewN | apply IsS117.drew | apply IsS117.set_1 | refine IsS117.far ?_ NB0_300.out _) | exact HI0.out)) hb); clear hb hbox hg; have hnb17 := NB307_300.out; have hnc17 := NB300_307.out; have hnb18 := NB307_0.out; have hnc18 := NB0_307.out; have hcz19_0 : w16.cell? ⟨gb307, 0, none⟩ = some (.int .i64 0) := (blk_cell BK307.out 0).trans rfl; have hcz19_1 : w16.cell? ⟨gb307, 1, none⟩ = some (.slice none 0 0) := (blk_cell BK307.out 1).trans rfl; have hfz19_0 := blk_frozen BK307.out 0; have hfz19_1 := blk_frozen BK307.out 1) | ((with_reducible refine gate_callee (f := 88) rfl ?_); refine goesL_ (some 20) rfl rfl Try.func88 (by kernel_rfl) rfl #[.pointer (some ⟨g, 0, none⟩), .int .i64 a2] rfl gl_ ?_; (with_reducible refine (spec_l20Rd_odd.calls k g s0_0 t306 a2 true t309 w0 _ ?side1 ?side2 A7.out).mono ?_); (case side1 => repeat (first | (with_reducible first | exact HI0.out | apply IsS117.alloc | apply IsS117.drewN | apply IsS117.drew | apply IsS117.set_1 | refine IsS117.far ?_ NB0_300.out _ | refine IsS117.far ?_ NB0_307.out _) | exact HI0.out)); (case side2 => repeat (first | (with_reducible first | exact HB.out | apply below_alloc | apply pw_below_drewN | apply below_drew1 | refine below_set ?_ (IsS117.ge HI0.out) | refine below_set ?_ GE300.out | refine below_set ?_ GE307.out) | exact HB.out)); rintro e w20 ⟨rfl, hi, hb, hk⟩; refine ⟨_, rfl, ?_⟩; replace BK300 := mk_ (KeepBut.blk hk (g' := gb300) (o := .cells #[.int .i64 0, .slice none 0 0] 38 (0, 0)) (by refine bs_ ?_; refine blk_far ?_ NB300_307.out _; refine bs_ ?_; refine blk_far ?_ NB300_307.out _; refine bs_ ?_; exact BK300.out) NB300_0.out (by simp)); replace HO305 := mk_ (Kd.R_mono (Kd.R_keep (IsS117.apart (show IsS117 w0 _ g s0_0 t306 from by repeat (first | (with_reducible first | exact HI0.out | apply IsS117.alloc | apply IsS117.drewN | apply IsS117.drew | apply IsS117.set_1 | refine IsS117.far ?_ NB0_300.out _ | refine IsS117.far ?_ NB0_307.out _) | exact HI0.out)) (by (with_reducible repeat (first | apply Kd.R_alloc | apply Kd.R_drewN | apply Kd.R_drew)); exact (Kd.R_mono (Kd.R_far (p := ⟨gb307, 1, none⟩) (Kd.R_far (p := ⟨gb307, 0, none⟩) (Kd.R_types HO305.out BK307.out (by decide)) (fun _ hk => hk.2) (.int .i64 t301)) (fun _ hk => hk.2) (.slice Ao15 t303.length co15)) (fun _ h_ => h_.1))) (by decide)) hk (fun _ h => h.2)) (fun _ h => h.1)); replace BK307 := mk_ (KeepBut.blk hk (g' := gb307) (o := .cells #[.int .i64 t301, .slice Ao15 t303.length co15] 38 (0, 0)) (by refine bs_ ?_; refine blk_put (cs := #[.int .i64 t301, .slice none 0 0]) ?_ 1 _ rfl; refine bs_ ?_; refine blk_put (cs := #[.int .i64 0, .slice none 0 0]) ?_ 0 _ rfl; refine bs_ ?_; exact BK307.out) NB307_0.out (by simp)); replace HK := mk_ (KeepBut.trans (by repeat (first | (with_reducible first | exact HK.out | apply KeepBut.set_ | apply keep_drewN | apply keep_drew | apply keep_alloc | refine keep_far ?_ GW300.out _ | refine keep_far ?_ GW307.out _) | exact HK.out)) hk (.inl rfl)); replace HB := mk_ (hb); replace HI0 := mk_ (hi); (try clear hb)) | ((with_reducible refine gate_dst (N := 21) rfl ?_); refine Kd.R_lit (Kd.int .i64) _ 3 ?hg (N := 21) ?hd (xs := ([(-1), 4] : List Int)) (inner := [.int .i64 (-1), .int .i64 4]) (ok := fun _ => True) (okp := fun _ => True) ?hr ?hp (fun _ hk => hk) trivial (Below.refl _ _) (Nat.le_refl _) (by simp) ?_; (case hd => rfl); (case hg => rfl); (case hr => first | (go_simp; done) | (go_simp; rfl)); (case hp => exact (Reps.one (show Kd.M (Kd.int .i64) _ _ _ (-1) [.int .i64 (-1)] from rfl) (Reps.one (show Kd.M (Kd.int .i64) _ _ _ 4 [.int .i64 4] from rfl) (Reps.none _ _)))); intro v311 w21 ho22 hb hg_ hnew_; clear hg_ hnew_; (first | rw [← Ny310.out] at ho22 | (simp only [Int.reduceToNat] at ho22; rw [← Ny310.out] at ho22)); replace HO305 := mk_ (Kd.R_below (Kd.R_below HO305.out lt_) hb); have HO312 := mk_ (Kd.R_lower ho22 (keep_size (w := w) (g := g) (row := none) (by repeat (first | (with_reducible first | exact HK.out | apply KeepBut.set_ | apply keep_drewN | apply keep_drew | apply keep_alloc | refine keep_far ?_ GW300.out _ | refine keep_far ?_ GW307.out _) | exact HK.out)))); replace BK300 := mk_ (blk_below (g := gb300) (o := .cells #[.int .i64 0, .slice none 0 0] 38 (0, 0)) (bk_ BK300.out) hb); replace BK307 := mk_ (blk_below (g := gb307) (o := .cells #[.int .i64 t301, .slice Ao15 t303.length co15] 38 (0, 0)) (bk_ BK307.out) hb); replace HK := mk_ (KeepBut.trans (by repeat (first | (with_reducible first | exact HK.out | apply KeepBut.set_ | apply keep_drewN | apply keep_drew | apply keep_alloc | refine keep_far ?_ GW300.out _ | refine keep_far ?_ GW307.out _) | exact HK.out)) (KeepBut.of_below hb g none) (.inl rfl)); replace HB := mk_ (below_step (by repeat (first | (with_reducible first | exact HB.out | apply below_alloc | apply pw_below_drewN | apply below_drew1 | refine below_set ?_ (IsS117.ge HI0.out) | refine below_set ?_ GE300.out | refine below_set ?_ GE307.out) | exact HB.out)) hb); replace HI0 := mk_ (IsS117.below (by repeat (first | (with_reducible first | exact HI0.out | apply IsS117.alloc | apply IsS117.drewN | apply IsS117.drew | apply IsS117.set_1 | refine IsS117.far ?_ NB0_300.out _ | refine IsS117.far ?_ NB0_307.out _) | exact HI0.out)) hb); clear hb ho22) | ((with_reducible refine gate_callee (f := 60) rfl ?_); refine goesL_ (some 23) rfl rfl Try.func60 (by kernel_rfl) rfl #[.pointer (some ⟨g, 0, none⟩), .int .i64 2] rfl gl_ ?_; (with_reducible refine (spec_l20Rd_pick.calls k g s0_0 t309 2 t313 t314 w0 _ ?side1 ?side2 A9.out).mono ?_); (case side1 => repeat (first | (with_reducible first | exact HI0.out | apply IsS117.alloc | apply IsS117.drewN | apply IsS117.drew | apply IsS117.set_1 | refine IsS117.far ?_ NB0_300.out _ | refine IsS117.far ?_ NB0_307.out _) | exact HI0.out)); (case side2 => repeat (first | (with_reducible first | exact HB.out | apply below_alloc | apply pw_below_drewN | apply below_drew1 | refine below_set ?_ (IsS117.ge HI0.out) | refine below_set ?_ GE300.out | refine below_set ?_ GE307.out) | exact HB.out)); rintro e w23 ⟨rfl, hi, hb, hk⟩; refine ⟨_, rfl, ?_⟩; replace BK300 := mk_ (KeepBut.blk hk (g' := gb300) (o := .cells #[.int .i64 0, .slice none 0 0] 38 (0, 0)) (bk_ BK300.out) NB300_0.out (by simp)); replace HO305 := mk_ (Kd.R_mono (Kd.R_keep (IsS117.apart (show IsS117 w0 _ g s0_0 t309 from by repeat (first | (with_reducible first | exact HI0.out | apply IsS117.alloc | apply IsS117.drewN | apply IsS117.drew | apply IsS117.set_1 | refine IsS117.far ?_ NB0_300.out _ | refine IsS117.far ?_ NB0_307.out _) | exact HI0.out)) (Kd.R_below HO305.out lt_) (by decide)) hk (fun _ h => h.2)) (fun _ h => h.1)); replace BK307 := mk_ (KeepBut.blk hk (g' := gb307) (o := .cells #[.int .i64 t301, .slice Ao15 t303.length co15] 38 (0, 0)) (bk_ BK307.out) NB307_0.out (by simp)); replace HO312 := mk_ (Kd.R_mono (Kd.R_keep (IsS117.apart (show IsS117 w0 _ g s0_0 t309 from by repeat (first | (with_reducible first | exact HI0.out | apply IsS117.alloc | apply IsS117.drewN | apply IsS117.drew | apply IsS117.set_1 | refine IsS117.far ?_ NB0_300.out _ | refine IsS117.far ?_ NB0_307.out _) | exact HI0.out)) (Kd.R_below HO312.out lt_) (by decide)) hk (fun _ h => h.2)) (fun _ h => h.1)); replace HK := mk_ (KeepBut.trans (by repeat (first | (with_reducible first | exact HK.out | apply KeepBut.set_ | apply keep_drewN | apply keep_drew | apply keep_alloc | refine keep_far ?_ GW300.out _ | refine keep_far ?_ GW307.out _) | exact HK.out)) hk (.inl rfl)); replace HB := mk_ (hb); replace HI0 := mk_ (hi); (try clear hb); obtain ⟨Ao24, co24, eo24⟩ := Kd.R_slice HO312.out; subst eo24; have p315 : 0 ≤ (t313 : Int) := oa_; have q315 : t313 < (y310.length : Int) := oa_; obtain ⟨ad315, e315, hx315_0⟩ := Kd.at_int (Kd.R_reads' HO312.out).2.2 t313 p315 q315; cases e315; replace p315 := eq_true p315; replace q315 := eq_true q315; have hcz25_0 : w23.cell? ⟨gb307, 0, none⟩ = some (.int .i64 t301) := (blk_cell BK307.out 0).trans rfl; have hcz25_1 : w23.cell? ⟨gb307, 1, none⟩ = some (.slice Ao15 t303.length co15) := (blk_cell BK307.out 1).trans rfl; have hfz25_0 := blk_frozen BK307.out 0; have hfz25_1 := blk_frozen BK307.out 1; have hnb26 := NB300_0.out; have hnc26 := NB0_300.out; have hcz27_0 : w23.cell? ⟨gb300, 0, none⟩ = some (.int .i64 0) := (blk_cell BK300.out 0).trans rfl; have hcz27_1 : w23.cell? ⟨gb300, 1, none⟩ = some (.slice none 0 0) := (blk_cell BK300.out 1).trans rfl; have hfz27_0 := blk_frozen BK300.out 0; have hfz27_1 := blk_frozen BK300.out 1))
 refine bodyPost_ret (results_cell_row rfl _ _ gb300 38 #[.int .i64 (rd y310 t313), .slice Ao15 t303.length co15] (0, 0) _ rfl (by refine bs_ ?_; refine blk_put (cs := #[.int .i64 (rd y310 t313), .slice none 0 0]) ?_ 1 _ rfl; refine bs_ ?_; refine blk_put (cs := #[.int .i64 0, .slice none 0 0]) ?_ 0 _ rfl; refine bs_ ?_; refine blk_far ?_ NB300_307.out _; refine bs_ ?_; exact BK300.out) Try.underlying38 rfl (by kernel_rfl)) rfl ?_
 exact ⟨_, by first | rfl | (simp [errW_none, errW_some] <;> rfl) | (simp only [← hji4]; first | rfl | (simp [errW_none, errW_some] <;> rfl)) | (simp [*, errW_none, errW_some] <;> rfl), by (with_reducible repeat (first | apply Kd.R_alloc | apply Kd.R_drewN | apply Kd.R_drew)); exact Kd.R_mono (Kd.R_far (p := ⟨gb300, 1, none⟩) (Kd.R_far (p := ⟨gb300, 0, none⟩) (Kd.R_far (p := ⟨gb307, 0, none⟩) (Kd.R_types (Kd.R_types HO305.out BK307.out (by decide)) BK300.out (by decide)) (fun _ hk => hk.1.2) (.int .i64 (rd y310 t313))) (fun _ hk => hk.2) (.int .i64 (rd y310 t313))) (fun _ hk => hk.2) (.slice Ao15 t303.length co15)) (fun _ hk => trivial), by repeat (first | (with_reducible first | exact HI0.out | apply IsS117.alloc | apply IsS117.drewN | apply IsS117.drew | apply IsS117.set_1 | refine IsS117.far ?_ NB0_300.out _ | refine IsS117.far ?_ NB0_307.out _) | exact HI0.out), by repeat (first | (with_reducible first | exact HB.out | apply below_alloc | apply pw_below_drewN | apply below_drew1 | refine below_set ?_ (IsS117.ge HI0.out) | refine below_set ?_ GE300.out | refine below_set ?_ GE307.out) | exact HB.out), by repeat (first | (with_reducible first | exact HK.out | apply KeepBut.set_ | apply keep_drewN | apply keep_drew | apply keep_alloc | refine keep_far ?_ GW300.out _ | refine keep_far ?_ GW307.out _) | exact HK.out)⟩
mutual
def spec_l20Story.l0 : Nat → Int → Int → List (S38) → Int → List Int → Int → Option (Int × (List (S38)) × Int)
 | 0, _, _, _, _, _, _ => none
 | k + 1, x1, x6, x7, x8, x1000, x1001 => if x8 > 0 then ((spec_l20Claim.f k x1000 x1001 x6 (wrap64 (x1 * 3))).bind fun bt323 => (if x7.length < 4398046511104 then (spec_l20Story.l0 k x1 x6 (x7 ++ [(⟨bt323.1, bt323.2.1⟩ : S38)]) (wrap64 (x8 - 1)) x1000 bt323.2.2) else (none))) else ((spec_l20Rd_odd.f k x1000 x1001 x1).bind fun bt331 => (if bt331.1 = true then (spec_l20Story.l1 k x6 x7 x1000 bt331.2) else (some (x6, x7, bt331.2))))
def spec_l20Story.l1 : Nat → Int → List (S38) → List Int → Int → Option (Int × (List (S38)) × Int)
 | 0, _, _, _, _ => none
 | k + 1, x6, x7, x1000, x1001 => if (x7.length : Int) < 7 then (if x7.length < 4398046511104 then (spec_l20Story.l1 k x6 (x7 ++ [(⟨0, (([(⟨0, 0⟩ : S47)] : List (S47)))⟩ : S38)]) x1000 x1001) else (none)) else (some (x6, x7, x1001))
end
def spec_l20Story.f (k : Nat) (s0_0 : List Int) (s0_1 : Int) (a1 : Int) : Option (Int × (List (S38)) × Int) := (spec_l20Rd_pick.f k s0_0 s0_1 4).bind fun bt316 => ((spec_l20Rd_pick.f k s0_0 bt316.2 5).bind fun bt321 => (spec_l20Story.l0 k a1 (wrap64 (1 + bt316.1)) (([] : List (S38))) bt321.1 s0_0 bt321.2))
set_option maxHeartbeats 8000000 in
set_option maxRecDepth 100000 in
theorem spec_l20Story.calls (k : Nat) (g : Nat) (s0_0 : List Int) (s0_1 : Int) (a1 : Int) (r1 : Int) (r2 : List (S38)) (r3 : Int) (w0 w : World) (hI : IsS117 w0 w g s0_0 s0_1) (hB : Below w0.heap.size w0 w) (h : spec_l20Story.f k s0_0 s0_1 a1 = some (r1, r2, r3)) :
  Calls Try.prog 55 #[.pointer (some ⟨g, 0, none⟩), .int .i64 a1] w fun e w' => ∃ v1_ : Value, e = .returned (.tuple #[.int .i64 r1, v1_]) ∧ Kd.S k38 38 w' w.heap.size (fun _ => True) v1_ r2 ∧ IsS117 w0 w' g s0_0 r3 ∧ Below w0.heap.size w0 w' ∧ KeepBut w w' g none := by
 have hu47 := Try.underlying47
 have hu38 := Try.underlying38
 have HI0 := mk_ hI
 have HK := mk_ (KeepBut.refl w g none)
 have HL := mk_ hB.size
 clear hI
 have HW0 := mk_ hB.size
 have HB := mk_ hB
 clear hB
 unfold spec_l20Story.f at h
 have H := h
 clear h
 replace H := Option.bind_eq_some_iff.mp H
 obtain ⟨⟨t316, t317⟩, A30, H⟩ := H
 try dsimp only at H
 have A3 := mk_ A30
 clear A30
 obtain ⟨y318, hy318⟩ : ∃ y_ : List (S38), y_ = (([] : List (S38))) := ⟨_, rfl⟩
 replace H : ((spec_l20Rd_pick.f k s0_0 t317 5).bind fun bt321 => (spec_l20Story.l0 k a1 (wrap64 (1 + t316)) y318 bt321.1 s0_0 bt321.2)) = some (r1, r2, r3) := by first | (rw [hy318]; exact H) | exact H
 have Ny318 := mk_ hy318
 clear hy318
 replace H := Option.bind_eq_some_iff.mp H
 obtain ⟨⟨t321, t322⟩, A40, H⟩ := H
 try dsimp only at H
 have A4 := mk_ A40
 clear A40
 have H' := mk_ H
 clear H
 go_enter Try.func55, Try.ntmps55
 go_wp2_with (first | ((with_reducible refine gate_callee (f := 60) rfl ?_); refine goesL_ (some 10) rfl rfl Try.func60 (by kernel_rfl) rfl #[.pointer (some ⟨g, 0, none⟩), .int .i64 4] rfl gl_ ?_; (with_reducible refine (spec_l20Rd_pick.calls k g s0_0 s0_1 4 t316 t317 w0 _ ?side1 ?side2 A3.out).mono ?_); (case side1 => exact IsS117.below HI0.out lt_); (case side2 => exact below_at HB.out); rintro e w5 ⟨rfl, hi, hb, hk⟩; refine ⟨_, rfl, ?_⟩; replace HK := mk_ (KeepBut.trans (keep_at HK.out) hk (.inl rfl)); replace HB := mk_ (hb); replace HI0 := mk_ (hi); (try clear hb)) | ((with_reducible refine gate_dst (N := 12) rfl ?_); refine Kd.S_lit k38 _ 38 ?hg (N := 12) ?hd (xs := ([] : List (S38))) (inner := []) (ok := fun _ => True) (okp := fun _ => True) ?hr ?hp (fun _ hk => hk) trivial (Below.refl _ _) (Nat.le_refl _) (by simp) ?_; (case hd => rfl); (case hg => rfl); (case hr => first | (go_simp; done) | (go_simp; rfl)); (case hp => exact (Reps.none _ _)); intro v319 w6 ho7 hb hg_ hnew_; clear hg_ hnew_; (first | rw [← Ny318.out] at ho7 | (simp only [Int.reduceToNat] at ho7; rw [← Ny318.out] at ho7)); have HO320 := mk_ (Kd.S_lower ho7 (keep_size (w := w) (g := g) (row := none) (keep_at HK.out))); replace HI0 := mk_ (IsS117.below (IsS117.below HI0.out lt_) hb); replace HK := mk_ (KeepBut.trans (keep_at HK.out) (KeepBut.of_below hb g none) (.inl rfl)); replace HB := mk_ (below_step (below_at HB.out) hb); clear hb ho7) | ((with_reducible refine gate_callee (f := 60) rfl ?_); refine goesL_ (some 14) rfl rfl Try.func60 (by kernel_rfl) rfl #[.pointer (some ⟨g, 0, none⟩), .int .i64 5] rfl gl_ ?_; (with_reducible refine (spec_l20Rd_pick.calls k g s0_0 t317 5 t321 t322 w0 _ ?side1 ?side2 A4.out).mono ?_); (case side1 => exact IsS117.below HI0.out lt_); (case side2 => exact below_at HB.out); rintro e w8 ⟨rfl, hi, hb, hk⟩; refine ⟨_, rfl, ?_⟩; replace HO320 := mk_ (Kd.S_mono (Kd.S_keep (IsS117.apartS (show IsS117 w0 _ g s0_0 t317 from IsS117.below HI0.out lt_) (Kd.S_below HO320.out lt_) (by decide)) hk (fun _ h => h.2)) (fun _ h => h.1)); replace HK := mk_ (KeepBut.trans (keep_at HK.out) hk (.inl rfl)); replace HB := mk_ (hb); replace HI0 := mk_ (hi); (try clear hb)))
 go_loopg [7, 8] k (fun kq v7 v8 w' => ∃ (x7_1 : List (S38)) (x8_1 : Int) (x1001_1 : Int), v8 = .int .i64 x8_1 ∧ Aside0 (spec_l20Story.l0 kq a1 (wrap64 (1 + t316)) x7_1 x8_1 s0_0 x1001_1 = some (r1, r2, r3)) ∧ Aside0 (kq ≤ k) ∧ Aside0 (Kd.S k38 38 w' w.heap.size (fun _ => True) v7 x7_1) ∧ Aside0 (IsS117 w0 w' g s0_0 x1001_1) ∧ Aside0 (KeepBut w w' g none) ∧ Aside0 (Below w0.heap.size w0 w'))
 case atStart => exact ⟨(y318), (t321), (t322), sm_, H', ⟨Nat.le_refl _⟩, ⟨Kd.S_below HO320.out lt_⟩, ⟨IsS117.below HI0.out lt_⟩, ⟨keep_at HK.out⟩, ⟨below_at HB.out⟩⟩
 clear H'
 try clear p2
 try clear c5
 try clear c6
 try clear p6
 obtain ⟨x7_1, x8_1, x1001_1, rfl, HA, HK1, HO_7, HI0, HK, HB⟩ := hrel
 cases gk with
 | zero => exact absurd HA.out (by simp [spec_l20Story.l0])
 | succ k1 =>
  have H := HA.out
  clear HA
  simp only [spec_l20Story.l0] at H
  by_cases c9 : x8_1 > 0
  ·rw [if_pos c9] at H
   have c9b0 : decide (0 < x8_1) = true := decide_eq_true c9
   clear c9
   replace H := Option.bind_eq_some_iff.mp H
   obtain ⟨⟨t323, t324, t327⟩, A100, H⟩ := H
   try dsimp only at H
   have A10 := mk_ A100
   clear A100
   by_cases c11 : x7_1.length < 4398046511104
   rotate_left
   ·rw [if_neg c11] at H
    exact absurd H (by simp)
   rw [if_pos c11] at H
   have LMc11 := mk_ c11
   clear c11
   obtain ⟨y328, hy328⟩ : ∃ y_ : List (S38), y_ = (x7_1 ++ [(⟨t323, t324⟩ : S38)]) := ⟨_, rfl⟩
   first | (replace H := bn_ hy328 H; try dsimp only at H) | rw [← hy328] at H
   have Ny328 := mk_ hy328
   clear hy328
   have H' := mk_ H
   clear H
   go_wp2_with (first | ((with_reducible refine gate_callee (f := 87) rfl ?_); refine goesL_ (some 24) rfl rfl Try.func87 (by kernel_rfl) rfl #[.pointer (some ⟨g, 0, none⟩), .int .i64 (wrap64 (1 + t316)), .int .i64 (wrap64 (a1 * 3))] rfl gl_ ?_; (with_reducible refine (spec_l20Claim.calls k1 g s0_0 x1001_1 (wrap64 (1 + t316)) (wrap64 (a1 * 3)) t323 t324 t327 w0 _ ?side1 ?side2 A10.out).mono ?_); (case side1 => exact IsS117.below HI0.out lt_); (case side2 => exact below_at HB.out); rintro e w12 ⟨v325, rfl, ho0, hi, hb, hk⟩; refine ⟨_, rfl, ?_⟩; replace HO_7 := mk_ (Kd.S_mono (Kd.S_told (Kd.S_oldK (IsS117.apartS (show IsS117 w0 _ g s0_0 x1001_1 from IsS117.below HI0.out lt_) (Kd.S_below HO_7.out lt_) (by decide)) hk) (Kd.R_base ho0)) (fun _ h_ => h_.1)); have HO326 := mk_ (Kd.R_lower ho0 (keep_size (w := w) (g := g) (row := none) (keep_at HK.out))); replace HK := mk_ (KeepBut.trans (keep_at HK.out) hk (.inl rfl)); replace HB := mk_ (hb); replace HI0 := mk_ (hi); (try clear hb); (try clear ho0); obtain ⟨Ao14, co14, eo14⟩ := Kd.R_slice HO326.out; subst eo14) | ((with_reducible refine gate_builtin (b := .append) (xs := #[.tmp 19, .tmp 25]) rfl ?_); at_builtin; refine Kd.S_append k38 w.heap.size rfl (.tmp 19) (.tmp 25) 25 38 (.agg #[(.int .i64 0), (.slice none 0 0)]) 32 rfl Try.underlying25 info38 rfl (by decide) (by omega) u7 x7_1 (⟨t323, t324⟩ : S38) [.int .i64 t323, .slice Ao14 t324.length co14] (fun _ => True) (fun k_ => some k_ = (.slice Ao14 t324.length co14 : Value).ownBlock) rfl rfl ?aP (fun k_ hk_ => ((Kd.R_mono (ok' := fun k_ => ((fun _ => True)) k_ ∧ some k_ ≠ (u7 : Value).ownBlock) (Kd.R_apart' (HO326.out) (Kd.S_typed HO_7.out) (by decide)) (fun k_ hk => ⟨trivial, hk.2⟩))).1 k_ hk_.symm) ?aF ?aO (Below.refl _ _) ?aS ?aL ?_; (case aP => exact k38_mkM _ _ _ (⟨t323, t324⟩ : S38) (Kd.R_mono (Kd.R_tight rfl (Kd.R_mono (ok' := fun k_ => ((fun _ => True)) k_ ∧ some k_ ≠ (u7 : Value).ownBlock) (Kd.R_apart' (HO326.out) (Kd.S_typed HO_7.out) (by decide)) (fun k_ hk => ⟨trivial, hk.2⟩))) (fun _ h_ => h_))); (case aF => exact (fun _ _ => trivial)); (case aO => exact (Kd.S_below (Kd.S_mono HO_7.out (fun k_ hk => ⟨trivial, fun e_ => hk.2 e_⟩)) lt_)); (case aS => exact (keep_size (w := w) (g := g) (row := none) (keep_at HK.out))); (case aL => have := LMc11.out; omega); intro v329 w13 ho hb hg hat; rw [← Ny328.out] at ho; replace HI0 := mk_ (IsS117.grown (IsS117.below HI0.out lt_) hg (IsS117.own_neS HI0.out HO_7.out (by decide))); replace HB := mk_ (below_weaken (below_at HB.out) HL.out hb); replace HK := mk_ (KeepBut.trans (keep_at HK.out) (KeepBut.of_grown hg g) (Kd.S_base2 HO_7.out)); have HO330 := mk_ (ho); (try clear HO_7 HO326); clear ho hb hg hat))
   go_roundg k1
   case measure => have := HK1.out; omega
   case rel => exact ⟨(y328), (wrap64 (x8_1 - 1)), (t327), sm_, H', ⟨by have := HK1.out; omega⟩, ⟨Kd.S_below HO330.out lt_⟩, ⟨IsS117.below HI0.out lt_⟩, ⟨keep_at HK.out⟩, ⟨below_at HB.out⟩⟩
  rw [if_neg c9] at H
  have c9b0 : decide (0 < x8_1) = false := decide_eq_false c9
  clear c9
  replace H := Option.bind_eq_some_iff.mp H
  obtain ⟨⟨t331, t332⟩, A150, H⟩ := H
  try dsimp only at H
  have A15 := mk_ A150
  clear A150
  by_cases c16 : t331 = true
  rotate_left
  ·replace c16 := Bool.eq_false_iff.mpr c16
   subst c16
   rw [if_neg Bool.false_ne_true] at H
   simp only [Option.some.injEq, Prod.mk.injEq] at H
   obtain ⟨rfl, rfl, rfl⟩ := H
   go_wp2_with (first | ((with_reducible refine gate_callee (f := 88) rfl ?_); refine goesL_ (some 29) rfl rfl Try.func88 (by kernel_rfl) rfl #[.pointer (some ⟨g, 0, none⟩), .int .i64 a1] rfl gl_ ?_; (with_reducible refine (spec_l20Rd_odd.calls k1 g s0_0 x1001_1 a1 false t332 w0 _ ?side1 ?side2 A15.out).mono ?_); (case side1 => exact IsS117.below HI0.out lt_); (case side2 => exact below_at HB.out); rintro e w26 ⟨rfl, hi, hb, hk⟩; refine ⟨_, rfl, ?_⟩; replace HO_7 := mk_ (Kd.S_mono (Kd.S_keep (IsS117.apartS (show IsS117 w0 _ g s0_0 x1001_1 from IsS117.below HI0.out lt_) (Kd.S_below HO_7.out lt_) (by decide)) hk (fun _ h => h.2)) (fun _ h => h.1)); replace HK := mk_ (KeepBut.trans (keep_at HK.out) hk (.inl rfl)); replace HB := mk_ (hb); replace HI0 := mk_ (hi); (try clear hb)))
   go_ret2
   exact ⟨_, er_, by (with_reducible repeat (first | apply Kd.S_alloc | apply Kd.S_drewN | apply Kd.S_drew)); exact HO_7.out, IsS117.below HI0.out lt_, below_at HB.out, keep_at HK.out⟩
  subst c16
  rw [if_pos rfl] at H
  have H' := mk_ H
  clear H
  go_wp2_with (first | ((with_reducible refine gate_callee (f := 88) rfl ?_); refine goesL_ (some 29) rfl rfl Try.func88 (by kernel_rfl) rfl #[.pointer (some ⟨g, 0, none⟩), .int .i64 a1] rfl gl_ ?_; (with_reducible refine (spec_l20Rd_odd.calls k1 g s0_0 x1001_1 a1 true t332 w0 _ ?side1 ?side2 A15.out).mono ?_); (case side1 => exact IsS117.below HI0.out lt_); (case side2 => exact below_at HB.out); rintro e w17 ⟨rfl, hi, hb, hk⟩; refine ⟨_, rfl, ?_⟩; replace HO_7 := mk_ (Kd.S_mono (Kd.S_keep (IsS117.apartS (show IsS117 w0 _ g s0_0 x1001_1 from IsS117.below HI0.out lt_) (Kd.S_below HO_7.out lt_) (by decide)) hk (fun _ h => h.2)) (fun _ h => h.1)); replace HK := mk_ (KeepBut.trans (keep_at HK.out) hk (.inl rfl)); replace HB := mk_ (hb); replace HI0 := mk_ (hi); (try clear hb)))
  (try simp only [Act.put, z0_, z1_, z2_])
  go_loopg [7] k1 (fun kq v7 w' => ∃ (x7_2 : List (S38)), Aside0 (spec_l20Story.l1 kq (wrap64 (1 + t316)) x7_2 s0_0 t332 = some (r1, r2, r3)) ∧ Aside0 (kq ≤ k1) ∧ Aside0 (Kd.S k38 38 w' w.heap.size (fun _ => True) v7 x7_2) ∧ Aside0 (IsS117 w0 w' g s0_0 t332) ∧ Aside0 (KeepBut w w' g none) ∧ Aside0 (Below w0.heap.size w0 w'))
  case atStart => exact ⟨(x7_1), H', ⟨Nat.le_refl _⟩, ⟨Kd.S_below HO_7.out lt_⟩, ⟨IsS117.below HI0.out lt_⟩, ⟨keep_at HK.out⟩, ⟨below_at HB.out⟩⟩
  clear H'
  try clear c1
  try clear p2
  try clear c5
  try clear c6
  try clear p6
  try clear c8
  try clear c9
  try clear c9b0
  try clear c11
  try clear c16
  try clear p2
  try clear p6
  obtain ⟨x7_2, HA, HK2, HO_7, HI0, HK, HB⟩ := hrel
  cases gk with
  | zero => exact absurd HA.out (by simp [spec_l20Story.l1])
  | succ k2 =>
   have H := HA.out
   clear HA
   simp only [spec_l20Story.l1] at H
   by_cases c18 : (x7_2.length : Int) < 7
   rotate_left
   ·rw [if_neg c18] at H
    have c18b0 : decide ((x7_2.length : Int) < 7) = false := decide_eq_false c18
    have c18b1 : decide (x7_2.length < 7) = false := decide_eq_false (by omega)
    clear c18
    simp only [Option.some.injEq, Prod.mk.injEq] at H
    obtain ⟨rfl, rfl, rfl⟩ := H
    obtain ⟨Ao25, co25, eo25⟩ := Kd.S_slice HO_7.out
    subst eo25
    go_wp2
    go_ret2
    exact ⟨_, er_, by (with_reducible repeat (first | apply Kd.S_alloc | apply Kd.S_drewN | apply Kd.S_drew)); exact HO_7.out, IsS117.below HI0.out lt_, below_at HB.out, keep_at HK.out⟩
   rw [if_pos c18] at H
   have c18b0 : decide ((x7_2.length : Int) < 7) = true := decide_eq_true c18
   have c18b1 : decide (x7_2.length < 7) = true := decide_eq_true (by omega)
   clear c18
   obtain ⟨y333, hy333⟩ : ∃ y_ : List (S47), y_ = (([(⟨0, 0⟩ : S47)] : List (S47))) := ⟨_, rfl⟩
   first | (replace H := bn_ hy333 H; try dsimp only at H) | rw [← hy333] at H
   have Ny333 := mk_ hy333
   clear hy333
   by_cases c19 : x7_2.length < 4398046511104
   rotate_left
   ·rw [if_neg c19] at H
    exact absurd H (by simp)
   rw [if_pos c19] at H
   have LMc19 := mk_ c19
   clear c19
   obtain ⟨y336, hy336⟩ : ∃ y_ : List (S38), y_ = (x7_2 ++ [(⟨0, y333⟩ : S38)]) := ⟨_, rfl⟩
   first | (replace H := bn_ hy336 H; try dsimp only at H) | rw [← hy336] at H
   have Ny336 := mk_ hy336
   clear hy336
   have H' := mk_ H
   clear H
   obtain ⟨Ao20, co20, eo20⟩ := Kd.S_slice HO_7.out
   subst eo20
   go_wp2_with (first | ((with_reducible refine gate_dst (N := 35) rfl ?_); refine Kd.R_lit k47 _ 47 ?hg (N := 35) ?hd (xs := ([(⟨0, 0⟩ : S47)] : List (S47))) (inner := [.int .i64 0, .int .i64 0]) (ok := fun _ => True) (okp := fun _ => True) ?hr ?hp (fun _ hk => hk) trivial (Below.refl _ _) (Nat.le_refl _) (by simp) ?_; (case hd => rfl); (case hg => rfl); (case hr => first | (go_simp; done) | (go_simp; rfl)); (case hp => exact (Reps.c2 (show Kd.M k47 _ _ _ (⟨0, 0⟩ : S47) [.int .i64 0, .int .i64 0] from (k47_mkM _ _ _ (⟨0, 0⟩ : S47) )) (Reps.none _ _))); intro v334 w21 ho22 hb hg_ hnew_; clear hg_ hnew_; (first | rw [← Ny333.out] at ho22 | (simp only [Int.reduceToNat] at ho22; rw [← Ny333.out] at ho22)); replace HO_7 := mk_ (Kd.S_elder' (Kd.S_below HO_7.out lt_) (Kd.R_base ho22) hb); have HO335 := mk_ (Kd.R_lower ho22 (keep_size (w := w) (g := g) (row := none) (keep_at HK.out))); replace HI0 := mk_ (IsS117.below (IsS117.below HI0.out lt_) hb); replace HK := mk_ (KeepBut.trans (keep_at HK.out) (KeepBut.of_below hb g none) (.inl rfl)); replace HB := mk_ (below_step (below_at HB.out) hb); clear hb ho22; obtain ⟨Ao23, co23, eo23⟩ := Kd.R_slice HO335.out; subst eo23) | ((with_reducible refine gate_builtin (b := .append) (xs := #[.tmp 33, .tmp 37]) rfl ?_); at_builtin; refine Kd.S_append k38 w.heap.size rfl (.tmp 33) (.tmp 37) 25 38 (.agg #[(.int .i64 0), (.slice none 0 0)]) 32 rfl Try.underlying25 info38 rfl (by decide) (by omega) (.slice Ao20 x7_2.length co20) x7_2 (⟨0, y333⟩ : S38) [.int .i64 0, .slice Ao23 y333.length co23] (fun _ => True) (fun k_ => some k_ = (.slice Ao23 y333.length co23 : Value).ownBlock) rfl rfl ?aP (fun k_ hk_ => ((Kd.R_mono (ok' := fun k_ => ((fun _ => True)) k_ ∧ some k_ ≠ (.slice Ao20 x7_2.length co20 : Value).ownBlock) (Kd.R_apart' (HO335.out) (Kd.S_typed HO_7.out) (by decide)) (fun k_ hk => ⟨trivial, hk.2⟩))).1 k_ hk_.symm) ?aF ?aO (Below.refl _ _) ?aS ?aL ?_; (case aP => exact k38_mkM _ _ _ (⟨0, y333⟩ : S38) (Kd.R_mono (Kd.R_tight rfl (Kd.R_mono (ok' := fun k_ => ((fun _ => True)) k_ ∧ some k_ ≠ (.slice Ao20 x7_2.length co20 : Value).ownBlock) (Kd.R_apart' (HO335.out) (Kd.S_typed HO_7.out) (by decide)) (fun k_ hk => ⟨trivial, hk.2⟩))) (fun _ h_ => h_))); (case aF => exact (fun _ _ => trivial)); (case aO => exact (Kd.S_below (Kd.S_mono HO_7.out (fun k_ hk => ⟨trivial, fun e_ => hk.2 e_⟩)) lt_)); (case aS => exact (keep_size (w := w) (g := g) (row := none) (keep_at HK.out))); (case aL => have := LMc19.out; omega); intro v337 w24 ho hb hg hat; rw [← Ny336.out] at ho; replace HI0 := mk_ (IsS117.grown (IsS117.below HI0.out lt_) hg (IsS117.own_neS HI0.out HO_7.out (by decide))); replace HB := mk_ (below_weaken (below_at HB.out) HL.out hb); replace HK := mk_ (KeepBut.trans (keep_at HK.out) (KeepBut.of_grown hg g) (Kd.S_base2 HO_7.out)); have HO338 := mk_ (ho); (try clear HO_7 HO335); clear ho hb hg hat))
   go_roundg k2
   case measure => have := HK1.out; have := HK2.out; omega
   case rel => exact ⟨(y336), H', ⟨by have := HK1.out; have := HK2.out; omega⟩, ⟨Kd.S_below HO338.out lt_⟩, ⟨IsS117.below HI0.out lt_⟩, ⟨keep_at HK.out⟩, ⟨below_at HB.out⟩⟩
def spec_TableOk.f (a0 : Int) (a1 : Int) : Option (Bool) := (spec_l1In.f a0 1 4).bind fun t339 => (if t339 = true then (if 0 ≤ a0 then ((spec_l1In.f a1 0 (wrap64 ((shl .i64 1 (shl .u64 1 a0)) - 1))).bind fun t340 => (some t340)) else (none)) else (some false))
set_option maxHeartbeats 8000000 in
set_option maxRecDepth 100000 in
theorem spec_TableOk.calls (a0 : Int) (a1 : Int) (r : Bool) (w : World) (h : spec_TableOk.f a0 a1 = some r) :
  Calls Try.prog 107 #[.int .i64 a0, .int .i64 a1] w fun e w' => e = .returned (.bool r) ∧ Drawn0 w w' := by
 unfold spec_TableOk.f at h
 have H := h
 clear h
 replace H := Option.bind_eq_some_iff.mp H
 obtain ⟨t339, A30, H⟩ := H
 try dsimp only at H
 have A3 := mk_ A30
 clear A30
 by_cases c4 : t339 = true
 rotate_left
 ·replace c4 := Bool.eq_false_iff.mpr c4
  subst c4
  rw [if_neg Bool.false_ne_true] at H
  obtain rfl := Option.some.inj H
  go_enter Try.func107, Try.ntmps107
  go_wp2_with (first | ((with_reducible refine gate_callee (f := 47) rfl ?_); refine goesL_ (some 6) rfl rfl Try.func47 (by kernel_rfl) rfl #[.int .i64 a0, .int .i64 1, .int .i64 4] rfl gl_ ?_; (with_reducible refine (spec_l1In.calls a0 1 4 false _ A3.out).mono ?_); rintro e w' ⟨rfl, ⟨nd, rfl⟩⟩; refine ⟨_, rfl, ?_⟩))
  go_ret
  exact ⟨sm_, by repeat (first | exact Drawn0.refl _ | apply Drawn0.step)⟩
 subst c4
 rw [if_pos rfl] at H
 by_cases c5 : 0 ≤ a0
 rotate_left
 ·rw [if_neg c5] at H
  exact absurd H (by simp)
 rw [if_pos c5] at H
 have c5b0 := eq_true c5
 have c5b1 : decide (0 ≤ a0) = true := decide_eq_true c5
 clear c5
 obtain ⟨ji6, hji6⟩ : ∃ j_ : Int, (shl .u64 1 a0) = j_ := ⟨_, rfl⟩
 first | rw [hji6] at H | simp only [hji6] at H
 (try rw [hji6] at A3)
 have hji6n : 0 ≤ ji6 := by rw [← hji6]; unfold shl; generalize (1 : Int) * 2 ^ min a0.toNat (IntKind.bits .u64) = q_; simp [IntKind.wrap, IntKind.bits, IntKind.signed]; omega
 have hji6e := eq_true hji6n
 have hji6f : decide (ji6 < 0) = false := decide_eq_false (Int.not_lt.mpr hji6n)
 clear hji6n
 have hji6_ : (IntKind.u64.wrap (1 * 2 ^ min a0.toNat 64)) = ji6 := hji6
 have hji6z : a0 ≤ 64 → (IntKind.u64.wrap (1 * 2 ^ a0.toNat)) = ji6 := shl_small hji6
 have hji6u : (IntKind.u64.wrap (2 ^ min a0.toNat 64)) = ji6 := by have h_ := hji6_; rw [Int.one_mul] at h_; exact h_
 have hji6v : a0 ≤ 64 → (IntKind.u64.wrap (2 ^ a0.toNat)) = ji6 := fun hle_ => by have h_ := hji6z hle_; rw [Int.one_mul] at h_; exact h_
 obtain ⟨ji7, hji7⟩ : ∃ j_ : Int, (shl .i64 1 (ji6)) = j_ := ⟨_, rfl⟩
 first | rw [hji7] at H | simp only [hji7] at H
 (try rw [hji7] at A3)
 have hji7_ : (IntKind.i64.wrap (1 * 2 ^ min (ji6).toNat 64)) = ji7 := hji7
 have hji7z : (ji6) ≤ 64 → (IntKind.i64.wrap (1 * 2 ^ (ji6).toNat)) = ji7 := shl_small hji7
 have hji7u : (IntKind.i64.wrap (2 ^ min (ji6).toNat 64)) = ji7 := by have h_ := hji7_; rw [Int.one_mul] at h_; exact h_
 have hji7v : (ji6) ≤ 64 → (IntKind.i64.wrap (2 ^ (ji6).toNat)) = ji7 := fun hle_ => by have h_ := hji7z hle_; rw [Int.one_mul] at h_; exact h_
 have hji7y : (wrap64 (1 * 2 ^ min (ji6).toNat 64)) = ji7 := (i64_w _).symm.trans hji7_
 have hji7x : (ji6) ≤ 64 → (wrap64 (1 * 2 ^ (ji6).toNat)) = ji7 := fun h_ => (i64_w _).symm.trans (hji7z h_)
 replace H := Option.bind_eq_some_iff.mp H
 obtain ⟨t340, A80, H⟩ := H
 replace H : (some t340) = some r := H
 have A8 := mk_ A80
 clear A80
 obtain rfl := Option.some.inj H
 go_enter Try.func107, Try.ntmps107
 go_wp2_with (first | ((with_reducible refine gate_callee (f := 47) rfl ?_); refine goesL_ (some 6) rfl rfl Try.func47 (by kernel_rfl) rfl #[.int .i64 a0, .int .i64 1, .int .i64 4] rfl gl_ ?_; (with_reducible refine (spec_l1In.calls a0 1 4 true _ A3.out).mono ?_); rintro e w' ⟨rfl, ⟨nd, rfl⟩⟩; refine ⟨_, rfl, ?_⟩) | (go_at_call 47; (with_reducible refine (spec_l1In.calls a1 0 (wrap64 ((ji7) - 1)) t340 _ A8.out).mono ?_); rintro e w' ⟨rfl, ⟨nd, rfl⟩⟩))
 go_ret
 exact ⟨by first | rfl | (simp; done) | (simp only [← hji6, ← hji7] <;> (first | rfl | simp)) | (simp [*]; done), by repeat (first | exact Drawn0.refl _ | apply Drawn0.step)⟩
mutual
def spec_WorldsIn.l0 : Nat → Int → Int → List Int → Int → Option (List Int)
 | 0, _, _, _, _ => none
 | k + 1, x0, x1, x5, x6 => (spec_TableOk.f x0 x1).bind fun t344 => (if t344 = true then (if 0 ≤ x0 then (spec_WorldsIn.j1 k x0 x1 x5 x6 (decide (x6 < (shl .i64 1 x0)))) else (none)) else (spec_WorldsIn.j1 k x0 x1 x5 x6 false))
def spec_WorldsIn.j1 : Nat → Int → Int → List Int → Int → Bool → Option (List Int)
 | 0, _, _, _, _, _ => none
 | k + 1, x0, x1, x5, x6, x16 => if x16 = true then (if 0 ≤ x6 then (if (Int.tmod (shr .i64 x1 x6) 2) = 1 then (if x5.length < 17592186044416 then (spec_WorldsIn.l0 k x0 x1 (x5 ++ [x6]) (wrap64 (x6 + 1))) else (none)) else (spec_WorldsIn.l0 k x0 x1 x5 (wrap64 (x6 + 1)))) else (none)) else (some x5)
end
def spec_WorldsIn.f (k : Nat) (a0 : Int) (a1 : Int) : Option (List Int) := spec_WorldsIn.l0 k a0 a1 (([] : List Int)) 0
set_option maxHeartbeats 8000000 in
set_option maxRecDepth 100000 in
theorem spec_WorldsIn.calls (k : Nat) (a0 : Int) (a1 : Int) (r : List Int) (w : World) (h : spec_WorldsIn.f k a0 a1 = some r) :
  Calls Try.prog 91 #[.int .i64 a0, .int .i64 a1] w fun e w' => ∃ v0_ : Value, e = .returned (v0_) ∧ Kd.R (Kd.int .i64) 3 w' w.heap.size (fun _ => True) v0_ r ∧ Below w.heap.size w w' := by
 have HB := mk_ (Below.refl w.heap.size w)
 have H : (spec_WorldsIn.l0 k a0 a1 (([] : List Int)) 0) = some r := h
 clear h
 obtain ⟨y341, hy341⟩ : ∃ y_ : List Int, y_ = (([] : List Int)) := ⟨_, rfl⟩
 replace H : (spec_WorldsIn.l0 k a0 a1 y341 0) = some r := by first | (rw [hy341]; exact H) | exact H
 have Ny341 := mk_ hy341
 clear hy341
 have H' := mk_ H
 clear H
 go_enter Try.func91, Try.ntmps91
 go_wp2_with (first | ((with_reducible refine gate_dst (N := 7) rfl ?_); refine Kd.R_lit (Kd.int .i64) _ 3 ?hg (N := 7) ?hd (xs := ([] : List Int)) (inner := []) (ok := fun _ => True) (okp := fun _ => True) ?hr ?hp (fun _ hk => hk) trivial (Below.refl _ _) (Nat.le_refl _) (by simp) ?_; (case hd => rfl); (case hg => rfl); (case hr => first | (go_simp; done) | (go_simp; rfl)); (case hp => exact (Reps.none _ _)); intro v342 w3 ho4 hb hg_ hnew_; clear hg_ hnew_; (first | rw [← Ny341.out] at ho4 | (simp only [Int.reduceToNat] at ho4; rw [← Ny341.out] at ho4)); have HO343 := mk_ (Kd.R_lower ho4 (below_size (below_at HB.out))); replace HB := mk_ (below_step (below_at HB.out) hb); clear hb ho4))
 go_loopg [5, 6] k (fun kq v5 v6 w' => ∃ (x5_1 : List Int) (x6_1 : Int), v6 = .int .i64 x6_1 ∧ Aside0 (spec_WorldsIn.l0 kq a0 a1 x5_1 x6_1 = some r) ∧ Aside0 (kq ≤ k) ∧ Aside0 (Kd.R (Kd.int .i64) 3 w' w.heap.size (fun _ => True) v5 x5_1) ∧ Aside0 (Below w.heap.size w w'))
 case atStart => exact ⟨(y341), (0), sm_, H', ⟨Nat.le_refl _⟩, ⟨Kd.R_below HO343.out lt_⟩, ⟨below_at HB.out⟩⟩
 clear H'
 try clear p2
 obtain ⟨x5_1, x6_1, rfl, HA, HK1, HO_5, HB⟩ := hrel
 cases gk with
 | zero => exact absurd HA.out (by simp [spec_WorldsIn.l0])
 | succ k1 =>
  have H := HA.out
  clear HA
  simp only [spec_WorldsIn.l0] at H
  have HC5 := mk_ H
  clear H
  go_upto_region 3 with (fail)
  go_cut [16] (fun v16 wc => ∃ (kq : Nat) (x16_4 : Bool), v16 = .bool x16_4 ∧ Aside0 (spec_WorldsIn.j1 kq a0 a1 x5_1 x6_1 x16_4 = some r) ∧ Aside0 (kq ≤ k1) ∧ Aside0 (Kd.R (Kd.int .i64) 3 wc w.heap.size (fun _ => True) u5 x5_1) ∧ Aside0 (Below w.heap.size w wc))
  case first =>
   have H := HC5.out
   clear HC5
   replace H := Option.bind_eq_some_iff.mp H
   obtain ⟨t344, A60, H⟩ := H
   try dsimp only at H
   have A6 := mk_ A60
   clear A60
   by_cases c7 : t344 = true
   rotate_left
   ·replace c7 := Bool.eq_false_iff.mpr c7
    subst c7
    rw [if_neg Bool.false_ne_true] at H
    have H' := mk_ H
    clear H
    go_wp2_with (first | ((with_reducible refine gate_callee (f := 107) rfl ?_); refine goesL_ (some 10) rfl rfl Try.func107 (by kernel_rfl) rfl #[.int .i64 a0, .int .i64 a1] rfl gl_ ?_; (with_reducible refine (spec_TableOk.calls a0 a1 false _ A6.out).mono ?_); rintro e w' ⟨rfl, ⟨nd, rfl⟩⟩; refine ⟨_, rfl, ?_⟩))
    go_meet
    case rel => exact ⟨_, (false), sm_, H', ⟨by have := HK1.out; first | omega | exact Nat.le_refl _⟩, ⟨Kd.R_below HO_5.out lt_⟩, ⟨below_at HB.out⟩⟩
   subst c7
   rw [if_pos rfl] at H
   by_cases c8 : 0 ≤ a0
   rotate_left
   ·rw [if_neg c8] at H
    exact absurd H (by simp)
   rw [if_pos c8] at H
   have c8b0 := eq_true c8
   have c8b1 : decide (0 ≤ a0) = true := decide_eq_true c8
   clear c8
   obtain ⟨ji9, hji9⟩ : ∃ j_ : Int, (shl .i64 1 a0) = j_ := ⟨_, rfl⟩
   first | rw [hji9] at H | simp only [hji9] at H
   (try rw [hji9] at A6)
   have hji9_ : (IntKind.i64.wrap (1 * 2 ^ min a0.toNat 64)) = ji9 := hji9
   have hji9z : a0 ≤ 64 → (IntKind.i64.wrap (1 * 2 ^ a0.toNat)) = ji9 := shl_small hji9
   have hji9u : (IntKind.i64.wrap (2 ^ min a0.toNat 64)) = ji9 := by have h_ := hji9_; rw [Int.one_mul] at h_; exact h_
   have hji9v : a0 ≤ 64 → (IntKind.i64.wrap (2 ^ a0.toNat)) = ji9 := fun hle_ => by have h_ := hji9z hle_; rw [Int.one_mul] at h_; exact h_
   have hji9y : (wrap64 (1 * 2 ^ min a0.toNat 64)) = ji9 := (i64_w _).symm.trans hji9_
   have hji9x : a0 ≤ 64 → (wrap64 (1 * 2 ^ a0.toNat)) = ji9 := fun h_ => (i64_w _).symm.trans (hji9z h_)
   have H' := mk_ H
   clear H
   go_wp2_with (first | ((with_reducible refine gate_callee (f := 107) rfl ?_); refine goesL_ (some 10) rfl rfl Try.func107 (by kernel_rfl) rfl #[.int .i64 a0, .int .i64 a1] rfl gl_ ?_; (with_reducible refine (spec_TableOk.calls a0 a1 true _ A6.out).mono ?_); rintro e w' ⟨rfl, ⟨nd, rfl⟩⟩; refine ⟨_, rfl, ?_⟩))
   go_meet
   case rel => exact ⟨_, (decide (x6_1 < (ji9))), (by first | rfl | (simp; done) | (simp only [← hji9] <;> (first | rfl | simp)) | (simp [*]; done)), H', ⟨by have := HK1.out; first | omega | exact Nat.le_refl _⟩, ⟨Kd.R_below HO_5.out lt_⟩, ⟨below_at HB.out⟩⟩
  clear HC5
  try clear c1
  try clear p2
  try clear p6
  try clear c7
  try clear c8
  try clear c8b0
  try clear c8b1
  try clear c9
  try clear p2
  obtain ⟨kq, x16_4, rfl, HA, HJ4, HO_5, HB⟩ := hcut
  cases kq with
  | zero => exact absurd HA.out (by simp [spec_WorldsIn.j1])
  | succ kj4 =>
   have H := HA.out
   clear HA
   simp only [spec_WorldsIn.j1] at H
   by_cases c10 : x16_4 = true
   rotate_left
   ·replace c10 := Bool.eq_false_iff.mpr c10
    subst c10
    rw [if_neg Bool.false_ne_true] at H
    obtain rfl := Option.some.inj H
    go_wp2
    go_ret
    exact ⟨_, er_, rl_ HO_5.out, below_at HB.out⟩
   subst c10
   rw [if_pos rfl] at H
   by_cases c11 : 0 ≤ x6_1
   rotate_left
   ·rw [if_neg c11] at H
    exact absurd H (by simp)
   rw [if_pos c11] at H
   have c11b0 := eq_true c11
   have c11b1 : decide (0 ≤ x6_1) = true := decide_eq_true c11
   clear c11
   obtain ⟨ji12, hji12⟩ : ∃ j_ : Int, (shr .i64 a1 x6_1) = j_ := ⟨_, rfl⟩
   first | rw [hji12] at H | simp only [hji12] at H
   have hji12_ : (a1 / 2 ^ min x6_1.toNat 64) = ji12 := hji12
   have hji12z : x6_1 ≤ 64 → (a1 / 2 ^ x6_1.toNat) = ji12 := shr_small hji12
   by_cases c13 : (Int.tmod (ji12) 2) = 1
   rotate_left
   ·rw [if_neg c13] at H
    have c13b0 : ((Int.tmod (ji12) 2) == 1) = false := beq_eq_false_iff_ne.mpr c13
    have c13b1 : ((Int.tmod (ji12) 2) != 1) = true := bne_iff_ne.mpr c13
    have H' := mk_ H
    clear H
    go_wp2
    go_roundg kj4
    case measure => have := HK1.out; have := HJ4.out; omega
    case rel => exact ⟨(x5_1), (wrap64 (x6_1 + 1)), sm_, H', ⟨by have := HK1.out; have := HJ4.out; omega⟩, ⟨Kd.R_below HO_5.out lt_⟩, ⟨below_at HB.out⟩⟩
   rw [if_pos c13] at H
   have c13b0 : ((Int.tmod (ji12) 2) == 1) = true := beq_iff_eq.mpr c13
   have c13b1 : ((Int.tmod (ji12) 2) != 1) = false := bne_eq_false_iff_eq.mpr c13
   clear c13
   by_cases c14 : x5_1.length < 17592186044416
   rotate_left
   ·rw [if_neg c14] at H
    exact absurd H (by simp)
   rw [if_pos c14] at H
   have LMc14 := mk_ c14
   clear c14
   obtain ⟨y345, hy345⟩ : ∃ y_ : List Int, y_ = (x5_1 ++ [x6_1]) := ⟨_, rfl⟩
   first | (replace H := bn_ hy345 H; try dsimp only at H) | rw [← hy345] at H
   have Ny345 := mk_ hy345
   clear hy345
   have H' := mk_ H
   clear H
   go_wp2_with (first | ((with_reducible refine gate_builtin (b := .append) (xs := #[.tmp 24, .tmp 26]) rfl ?_); at_builtin; refine Kd.R_append (Kd.int .i64) (w0 := w) w.heap.size rfl (.tmp 24) (.tmp 26) 42 3 (.int .i64 0) 8 rfl Try.underlying42 info3 rfl (by decide) (by omega) u5 x5_1 x6_1 [.int .i64 x6_1] (fun _ => True) (fun _ => False) rfl rfl ?aP (fun _ hk => hk.elim) ?aF ?aO ?aB ?aS ?aL ?_; (case aP => exact rfl); (case aB => exact (below_at HB.out)); (case aF => exact (fun _ _ => trivial)); (case aO => exact (Kd.R_below HO_5.out lt_)); (case aS => exact (below_size (below_at HB.out))); (case aL => have := LMc14.out; omega); intro v346 w15 ho hb hg hat; rw [← Ny345.out] at ho; replace HB := mk_ (hb); have HO347 := mk_ (ho); (try clear HO_5); clear ho hb hg hat))
   go_roundg kj4
   case measure => have := HK1.out; have := HJ4.out; omega
   case rel => exact ⟨(y345), (wrap64 (x6_1 + 1)), sm_, H', ⟨by have := HK1.out; have := HJ4.out; omega⟩, ⟨Kd.R_below HO347.out lt_⟩, ⟨below_at HB.out⟩⟩
def spec_l4Story.l0 : Nat → Int → List (S38) → Int → Int → Option (Int)
 | 0, _, _, _, _ => none
 | k + 1, x0, x1, x5, x6 => if x6 < (x1.length : Int) then (if 0 ≤ x6 then ((spec_l4Table.f k x0 ((rd_T38 x1 x6).f0) ((rd_T38 x1 x6).f1)).bind fun t349 => (spec_l4Story.l0 k x0 x1 (Go.bits .and .i64 x5 t349) (wrap64 (x6 + 1)))) else (none)) else (some x5)
def spec_l4Story.f (k : Nat) (a0 : Int) (l1 : List (S38)) : Option (Int) := if 0 ≤ a0 then (spec_l4Story.l0 k a0 l1 (wrap64 ((shl .i64 1 (shl .u64 1 a0)) - 1)) 0) else (none)
set_option maxHeartbeats 8000000 in
set_option maxRecDepth 100000 in
theorem spec_l4Story.calls (k : Nat) (a0 : Int) (A1 : Option Addr) (c1 : Nat) (l1 : List (S38)) (r : Int) (w : World) (hr1 : Kd.C k38 w A1 l1.length l1) (hc1 : l1.length ≤ c1) (h : spec_l4Story.f k a0 l1 = some r) :
  Calls Try.prog 108 #[.int .i64 a0, .slice A1 l1.length c1] w fun e w' => e = .returned (.int .i64 r) ∧ Below w.heap.size w w' := by
 have hu38 := Try.underlying38
 have HR1 := mk_ hr1
 have HC1 := mk_ hc1
 clear hr1 hc1
 have HB := mk_ (Below.refl w.heap.size w)
 have H : (if 0 ≤ a0 then (spec_l4Story.l0 k a0 l1 (wrap64 ((shl .i64 1 (shl .u64 1 a0)) - 1)) 0) else (none)) = some r := h
 clear h
 by_cases c3 : 0 ≤ a0
 rotate_left
 ·rw [if_neg c3] at H
  exact absurd H (by simp)
 rw [if_pos c3] at H
 have c3b0 := eq_true c3
 have c3b1 : decide (0 ≤ a0) = true := decide_eq_true c3
 clear c3
 obtain ⟨ji4, hji4⟩ : ∃ j_ : Int, (shl .u64 1 a0) = j_ := ⟨_, rfl⟩
 first | rw [hji4] at H | simp only [hji4] at H
 have hji4n : 0 ≤ ji4 := by rw [← hji4]; unfold shl; generalize (1 : Int) * 2 ^ min a0.toNat (IntKind.bits .u64) = q_; simp [IntKind.wrap, IntKind.bits, IntKind.signed]; omega
 have hji4e := eq_true hji4n
 have hji4f : decide (ji4 < 0) = false := decide_eq_false (Int.not_lt.mpr hji4n)
 clear hji4n
 have hji4_ : (IntKind.u64.wrap (1 * 2 ^ min a0.toNat 64)) = ji4 := hji4
 have hji4z : a0 ≤ 64 → (IntKind.u64.wrap (1 * 2 ^ a0.toNat)) = ji4 := shl_small hji4
 have hji4u : (IntKind.u64.wrap (2 ^ min a0.toNat 64)) = ji4 := by have h_ := hji4_; rw [Int.one_mul] at h_; exact h_
 have hji4v : a0 ≤ 64 → (IntKind.u64.wrap (2 ^ a0.toNat)) = ji4 := fun hle_ => by have h_ := hji4z hle_; rw [Int.one_mul] at h_; exact h_
 obtain ⟨ji5, hji5⟩ : ∃ j_ : Int, (shl .i64 1 (ji4)) = j_ := ⟨_, rfl⟩
 first | rw [hji5] at H | simp only [hji5] at H
 have hji5_ : (IntKind.i64.wrap (1 * 2 ^ min (ji4).toNat 64)) = ji5 := hji5
 have hji5z : (ji4) ≤ 64 → (IntKind.i64.wrap (1 * 2 ^ (ji4).toNat)) = ji5 := shl_small hji5
 have hji5u : (IntKind.i64.wrap (2 ^ min (ji4).toNat 64)) = ji5 := by have h_ := hji5_; rw [Int.one_mul] at h_; exact h_
 have hji5v : (ji4) ≤ 64 → (IntKind.i64.wrap (2 ^ (ji4).toNat)) = ji5 := fun hle_ => by have h_ := hji5z hle_; rw [Int.one_mul] at h_; exact h_
 have hji5y : (wrap64 (1 * 2 ^ min (ji4).toNat 64)) = ji5 := (i64_w _).symm.trans hji5_
 have hji5x : (ji4) ≤ 64 → (wrap64 (1 * 2 ^ (ji4).toNat)) = ji5 := fun h_ => (i64_w _).symm.trans (hji5z h_)
 have H' := mk_ H
 clear H
 go_enter Try.func108, Try.ntmps108
 go_wp2
 go_loopg [5, 6] k (fun kq v5 v6 w' => ∃ (x5_1 : Int) (x6_1 : Int), v5 = .int .i64 x5_1 ∧ v6 = .int .i64 x6_1 ∧ Aside0 (spec_l4Story.l0 kq a0 l1 x5_1 x6_1 = some r) ∧ Aside0 (kq ≤ k) ∧ Aside0 (Below w.heap.size w w'))
 case atStart => exact ⟨(wrap64 ((ji5) - 1)), (0), (by first | rfl | (simp; done) | (simp only [← hji5] <;> (first | rfl | simp)) | (simp [*]; done)), sm_, H', ⟨Nat.le_refl _⟩, ⟨below_at HB.out⟩⟩
 clear H'
 try clear c1
 try clear p2
 try clear c3
 try clear c3b0
 try clear c3b1
 obtain ⟨x5_1, x6_1, rfl, rfl, HA, HK1, HB⟩ := hrel
 cases gk with
 | zero => exact absurd HA.out (by simp [spec_l4Story.l0])
 | succ k1 =>
  have H := HA.out
  clear HA
  simp only [spec_l4Story.l0] at H
  by_cases c6 : x6_1 < (l1.length : Int)
  rotate_left
  ·rw [if_neg c6] at H
   have c6b0 : decide (x6_1 < (l1.length : Int)) = false := decide_eq_false c6
   clear c6
   obtain rfl := Option.some.inj H
   go_wp2
   go_ret
   exact ⟨by first | rfl | (simp [errW_none, errW_some] <;> rfl) | (simp only [← hji4, ← hji5]; first | rfl | (simp [errW_none, errW_some] <;> rfl)) | (simp [*, errW_none, errW_some] <;> rfl), below_at HB.out⟩
  rw [if_pos c6] at H
  have c6b0 : decide (x6_1 < (l1.length : Int)) = true := decide_eq_true c6
  clear c6
  by_cases c7 : 0 ≤ x6_1
  rotate_left
  ·rw [if_neg c7] at H
   exact absurd H (by simp)
  rw [if_pos c7] at H
  have c7b0 : decide (0 ≤ x6_1) = true := decide_eq_true c7
  clear c7
  replace H := Option.bind_eq_some_iff.mp H
  obtain ⟨t349, A80, H⟩ := H
  try dsimp only at H
  have A8 := mk_ A80
  clear A80
  have H' := mk_ H
  clear H
  have p348 : 0 ≤ (x6_1 : Int) := oa_
  have q348 : x6_1 < (l1.length : Int) := oa_
  obtain ⟨ad348, A348_1, c348_1, e348, hx348_0, hx348_1, hl348_1, hi348_1⟩ := at_T38 HR1.out x6_1 p348 q348
  cases e348
  replace hx348_0 := cel HB.out hx348_0
  replace hx348_1 := cel HB.out hx348_1
  have HR348_1 := mk_ hi348_1
  have HC348_1 := mk_ hl348_1
  clear hi348_1 hl348_1
  replace p348 := eq_true p348
  replace q348 := eq_true q348
  go_wp2_with (first | ((with_reducible refine gate_callee (f := 111) rfl ?_); refine goesL_ (some 23) rfl rfl Try.func111 (by kernel_rfl) rfl #[.int .i64 a0, .agg #[.int .i64 ((rd_T38 l1 x6_1).f0), .slice A348_1 ((rd_T38 l1 x6_1).f1).length c348_1]] rfl gl_ ?_; (with_reducible refine (spec_l4Table.calls k1 a0 ((rd_T38 l1 x6_1).f0) _ _ ((rd_T38 l1 x6_1).f1) t349 _ ?side1 ?side2 A8.out).mono ?_); (case side1 => exact Kd.C_below (Kd.C_below HR348_1.out HB.out) lt_); (case side2 => exact HC348_1.out); rintro e w9 ⟨rfl, hb⟩; refine ⟨_, rfl, ?_⟩; replace HB := mk_ (below_step (below_at HB.out) hb); (try clear hb)))
  go_roundg k1
  case measure => have := HK1.out; omega
  case rel => exact ⟨(Go.bits .and .i64 x5_1 t349), (wrap64 (x6_1 + 1)), sm_, sm_, H', ⟨by have := HK1.out; omega⟩, ⟨below_at HB.out⟩⟩
def spec_StoryTable.f (k : Nat) (a0 : Int) (l1 : List (S38)) : Option (Int) := (spec_StoryOk.f k a0 l1).bind fun t350 => (if t350 = true then ((spec_l4Story.f k a0 l1).bind fun t351 => (some t351)) else (some (-1)))
set_option maxHeartbeats 8000000 in
set_option maxRecDepth 100000 in
theorem spec_StoryTable.calls (k : Nat) (a0 : Int) (A1 : Option Addr) (c1 : Nat) (l1 : List (S38)) (r : Int) (w : World) (hr1 : Kd.C k38 w A1 l1.length l1) (hc1 : l1.length ≤ c1) (h : spec_StoryTable.f k a0 l1 = some r) :
  Calls Try.prog 92 #[.int .i64 a0, .slice A1 l1.length c1] w fun e w' => e = .returned (.int .i64 r) ∧ Below w.heap.size w w' := by
 have HR1 := mk_ hr1
 have HC1 := mk_ hc1
 clear hr1 hc1
 have HB := mk_ (Below.refl w.heap.size w)
 unfold spec_StoryTable.f at h
 have H := h
 clear h
 replace H := Option.bind_eq_some_iff.mp H
 obtain ⟨t350, A30, H⟩ := H
 try dsimp only at H
 have A3 := mk_ A30
 clear A30
 by_cases c4 : t350 = true
 rotate_left
 ·replace c4 := Bool.eq_false_iff.mpr c4
  subst c4
  rw [if_neg Bool.false_ne_true] at H
  obtain rfl := Option.some.inj H
  go_enter Try.func92, Try.ntmps92
  go_wp2_with (first | ((with_reducible refine gate_callee (f := 27) rfl ?_); refine goesL_ (some 7) rfl rfl Try.func27 (by kernel_rfl) rfl #[.int .i64 a0, .slice A1 l1.length c1] rfl gl_ ?_; (with_reducible refine (spec_StoryOk.calls k a0 _ _ l1 false _ ?side1 ?side2 A3.out).mono ?_); (case side1 => exact Kd.C_below HR1.out lt_); (case side2 => exact HC1.out); rintro e w8 ⟨rfl, hb⟩; refine ⟨_, rfl, ?_⟩; replace HB := mk_ (below_step (below_at HB.out) hb); (try clear hb)))
  go_ret
  exact ⟨er_, below_at HB.out⟩
 subst c4
 rw [if_pos rfl] at H
 replace H := Option.bind_eq_some_iff.mp H
 obtain ⟨t351, A50, H⟩ := H
 replace H : (some t351) = some r := H
 have A5 := mk_ A50
 clear A50
 obtain rfl := Option.some.inj H
 go_enter Try.func92, Try.ntmps92
 go_wp2_with (first | ((with_reducible refine gate_callee (f := 27) rfl ?_); refine goesL_ (some 7) rfl rfl Try.func27 (by kernel_rfl) rfl #[.int .i64 a0, .slice A1 l1.length c1] rfl gl_ ?_; (with_reducible refine (spec_StoryOk.calls k a0 _ _ l1 true _ ?side1 ?side2 A3.out).mono ?_); (case side1 => exact Kd.C_below HR1.out lt_); (case side2 => exact HC1.out); rintro e w6 ⟨rfl, hb⟩; refine ⟨_, rfl, ?_⟩; replace HB := mk_ (below_step (below_at HB.out) hb); (try clear hb)) | ((with_reducible refine gate_callee (f := 108) rfl ?_); refine goesL_ (some 11) rfl rfl Try.func108 (by kernel_rfl) rfl #[.int .i64 a0, .slice A1 l1.length c1] rfl gl_ ?_; (with_reducible refine (spec_l4Story.calls k a0 _ _ l1 t351 _ ?side1 ?side2 A5.out).mono ?_); (case side1 => exact Kd.C_below (Kd.C_below HR1.out HB.out) lt_); (case side2 => exact HC1.out); rintro e w7 ⟨rfl, hb⟩; refine ⟨_, rfl, ?_⟩; replace HB := mk_ (below_step (below_at HB.out) hb); (try clear hb)))
 go_ret
 exact ⟨er_, below_at HB.out⟩
end Go.Proofs.Ytcaogllnbpmcgaa.P

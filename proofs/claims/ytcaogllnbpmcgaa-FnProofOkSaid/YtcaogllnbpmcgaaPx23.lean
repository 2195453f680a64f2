/- Go's functions come to just the answers of the Lean functions told here. -/
import Derived.Test.YtcaogllnbpmcgaaPx22
namespace Go.Proofs.Ytcaogllnbpmcgaa.P
open Go.RowKit Go.Proofs.YtcaogllnbpmcgaaW.PrintWords Go.Proofs.YtcaogllnbpmcgaaW.PrintLast Go.Proofs.YtcaogllnbpmcgaaW.PrintMore
attribute [local go_sem] max2_int min2_int max_two min_two max_three min_three max_four min_four
set_option linter.unusedVariables false
set_option linter.unusedSimpArgs false
def spec_l20Proof.j0 : Nat → Int → Int → List (S38) → List (S47) → List Int → Int → Int → List (S93) → Option (Int × (List (S38)) × (List (S47)) × Int × (List (S93)) × Int)
 | 0, _, _, _, _, _, _, _, _ => none
 | k + 1, x1, x8, x9, x10, x1000, x1001, x391000, x391001 => (spec_l20Rd_odd.f k x1000 x1001 x1).bind fun bt399 => (if bt399.1 = true then ((spec_l20Rd_pick.f k x1000 bt399.2 4).bind fun bt401 => (if bt401.1 = 0 then ((spec_l20Rd_pick.f k x1000 bt401.2 4).bind fun bt403 => (some (x8, x9, x10, wrap64 (bt403.1 - 3), x391001, bt403.2))) else (if bt401.1 = 1 then ((spec_l20Rd_pick.f k x1000 bt401.2 4).bind fun bt405 => (if x391001.length < 5864062014805 then (some (x8, x9, x10, x391000, (x391001 ++ [(⟨bt405.1, (-1), (-2)⟩ : S93)]), bt405.2)) else (none))) else (if bt401.1 = 2 then (if (x391001.length : Int) > 0 then ((spec_l20Rd_pick.f k x1000 bt401.2 (x391001.length : Int)).bind fun bt410 => ((spec_l20Rd_pick.f k x1000 bt410.2 5).bind fun bt412 => (if 0 ≤ bt410.1 then (if bt410.1 < (x391001.length : Int) then (some (x8, x9, x10, x391000, (x391001.set (bt410.1 : Int).toNat (⟨bt412.1, (rd_T93 x391001 bt410.1).f1, (rd_T93 x391001 bt410.1).f2⟩ : S93)), bt412.2)) else (none)) else (none)))) else (some (x8, x9, x10, x391000, x391001, bt401.2))) else (if (x391001.length : Int) > 0 then ((spec_l20Rd_pick.f k x1000 bt401.2 5).bind fun bt415 => (if 0 < (x391001.length : Int) then (some (x8, x9, x10, x391000, (x391001.set (0 : Int).toNat (⟨(rd_T93 x391001 0).f0, wrap64 (bt415.1 - 3), (rd_T93 x391001 0).f2⟩ : S93)), bt415.2)) else (none))) else (some (x8, x9, x10, x391000, x391001, bt401.2))))))) else (some (x8, x9, x10, x391000, x391001, bt399.2)))
def spec_l20Proof.f (k : Nat) (s0_0 : List Int) (s0_1 : Int) (a1 : Int) : Option (Int × (List (S38)) × (List (S47)) × Int × (List (S93)) × Int) := (spec_l20Proved.f k s0_0 s0_1).bind fun bt377 => ((spec_FindProof.f k bt377.1 bt377.2.1 bt377.2.2.1).bind fun bt385 => (if bt385.2.2 = true then (spec_l20Proof.j0 k a1 bt377.1 bt377.2.1 bt377.2.2.1 s0_0 bt377.2.2.2 bt385.1 bt385.2.1) else ((some (([(⟨1, 0⟩ : S47)] : List (S47)) : List (S47))).bind fun y391 => ((spec_FindProof.f k bt377.1 bt377.2.1 y391).bind fun bt394 => (spec_l20Proof.j0 k a1 bt377.1 bt377.2.1 y391 s0_0 bt377.2.2.2 bt394.1 bt394.2.1)))))
def spec_l20Proof.T9 : Bool × List (List Nat × List Nat) := (true, [([], []), ([0], [0]), ([], []), ([2], [2]), ([3], [3]), ([1, 0, 1, 2, 3, 4], [1]), ([5, 0, 1, 2, 3, 4], [5]), ([6, 4, 3, 0, 1, 2, 3, 4], [4, 6])])
def spec_l20Proof.B9 : List Nat := [0, 1, 0, 4, 12, 31, 63, 127]
theorem spec_l20Proof.tab9 : rtab .any (opsOf Try.f82 9) = spec_l20Proof.T9 := by kernel_rfl
theorem spec_l20Proof.bits9 : waitsOk spec_l20Proof.T9.2 spec_l20Proof.B9 = true := by kernel_rfl
def spec_l20Proof.T13 : Bool × List (List Nat × List Nat) := (true, [([], []), ([0], [0]), ([], []), ([2], [2]), ([3], [3]), ([4], [4]), ([1, 5, 3], [1, 5]), ([0, 1, 2, 3, 4, 5, 6], []), ([7, 6, 6, 0, 1, 2, 3, 4, 5, 6], [6, 7])])
def spec_l20Proof.B13 : List Nat := [0, 1, 0, 4, 12, 28, 63, 127, 255]
theorem spec_l20Proof.tab13 : rtab .any (opsOf Try.f82 13) = spec_l20Proof.T13 := by kernel_rfl
theorem spec_l20Proof.bits13 : waitsOk spec_l20Proof.T13.2 spec_l20Proof.B13 = true := by kernel_rfl
def spec_l20Proof.T16 : Bool × List (List Nat × List Nat) := (true, [([], []), ([0], [0]), ([], []), ([], []), ([3], [3]), ([4], [4]), ([2, 5], [2, 5]), ([], []), ([7, 6], [7]), ([1, 6, 0, 1, 2, 3, 4, 5, 6, 7, 8], [1, 6]), ([9, 0, 1, 2, 3, 4, 5, 6, 7, 8], [9]), ([10, 8, 8, 0, 1, 2, 3, 4, 5, 6, 7, 8], [8, 10])])
def spec_l20Proof.B16 : List Nat := [0, 1, 0, 0, 8, 24, 60, 0, 252, 511, 1023, 2047]
theorem spec_l20Proof.tab16 : rtab .any (opsOf Try.f82 16) = spec_l20Proof.T16 := by kernel_rfl
theorem spec_l20Proof.bits16 : waitsOk spec_l20Proof.T16.2 spec_l20Proof.B16 = true := by kernel_rfl
def spec_l20Proof.T17 : Bool × List (List Nat × List Nat) := (true, [([], []), ([], []), ([], []), ([], []), ([0, 0], [0]), ([1, 4, 0, 1, 4], [1]), ([2, 5, 0, 1, 2, 4, 5], [2]), ([3, 6, 0, 1, 2, 3, 4, 5, 6], [3])])
def spec_l20Proof.B17 : List Nat := [0, 0, 0, 0, 1, 19, 55, 127]
theorem spec_l20Proof.tab17 : rtab .any (opsOf Try.f82 17) = spec_l20Proof.T17 := by kernel_rfl
theorem spec_l20Proof.bits17 : waitsOk spec_l20Proof.T17.2 spec_l20Proof.B17 = true := by kernel_rfl
set_option maxHeartbeats 8000000 in
set_option maxRecDepth 100000 in
theorem spec_l20Proof.calls (k : Nat) (g : Nat) (s0_0 : List Int) (s0_1 : Int) (a1 : Int) (r1 : Int) (r2 : List (S38)) (r3 : List (S47)) (r4 : Int) (r5 : List (S93)) (r6 : Int) (w0 w : World) (hI : IsS117 w0 w g s0_0 s0_1) (hB : Below w0.heap.size w0 w) (h : spec_l20Proof.f k s0_0 s0_1 a1 = some (r1, r2, r3, r4, r5, r6)) :
  Calls Try.prog 82 #[.pointer (some ⟨g, 0, none⟩), .int .i64 a1] w fun e w' => ∃ v1_ v2_ v4_ : Value, e = .returned (.tuple #[.int .i64 r1, v1_, v2_, .agg #[.int .i64 r4, v4_]]) ∧ Kd.S k38 38 w' w.heap.size (fun k_ => some k_ ≠ (v2_ : Value).ownBlock) v1_ r2 ∧ Kd.R k47 47 w' w.heap.size (fun _ => True) v2_ r3 ∧ Kd.R k93 93 w' w.heap.size (fun _ => True) v4_ r5 ∧ IsS117 w0 w' g s0_0 r6 ∧ Below w0.heap.size w0 w' ∧ KeepBut w w' g none := by
 have hu51 := Try.underlying51
 have hu47 := Try.underlying47
 have hu93 := Try.underlying93
 have HI0 := mk_ hI
 have HK := mk_ (KeepBut.refl w g none)
 have HL := mk_ hB.size
 clear hI
 have HW0 := mk_ hB.size
 have HB := mk_ hB
 clear hB
 unfold spec_l20Proof.f at h
 have H := h
 clear h
 replace H := Option.bind_eq_some_iff.mp H
 obtain ⟨⟨t377, t378, t381, t384⟩, A30, H⟩ := H
 try dsimp only at H
 have A3 := mk_ A30
 clear A30
 replace H := Option.bind_eq_some_iff.mp H
 obtain ⟨⟨t385, t386, t389⟩, A40, H⟩ := H
 try dsimp only at H
 have A4 := mk_ A40
 clear A40
 have HC5 := mk_ H
 clear H
 go_enter Try.func82, Try.ntmps82
 go_upto_if 27 with (first | ((with_reducible refine gate_dst (N := 7) rfl ?_); refine bx_ 7 #[.int .i64 0, .slice none 0 0] 51 ?_; intro gb376 hg w6 hbox hb; replace HB := mk_ (below_step (below_at HB.out) hb); have BK376 := mk_ (hbox); have GW376 := mk_ ((by rw [hg]; exact (keep_size (w := w) (g := g) (row := none) (keep_at HK.out)) : w.heap.size ≤ gb376)); have GE376 := mk_ ((Nat.le_trans HW0.out (by rw [hg]; exact (keep_size (w := w) (g := g) (row := none) (keep_at HK.out)) : w.heap.size ≤ gb376) : w0.heap.size ≤ gb376)); replace HK := mk_ (KeepBut.trans (keep_at HK.out) (KeepBut.of_below hb g none) (.inl rfl)); have NB0_376 := mk_ ((by rw [hg]; exact Nat.ne_of_lt (IsS117.lt (show IsS117 w0 _ g s0_0 s0_1 from IsS117.below HI0.out lt_)) : g ≠ gb376)); have NB376_0 := mk_ ((by rw [hg]; exact Nat.ne_of_gt (IsS117.lt (show IsS117 w0 _ g s0_0 s0_1 from IsS117.below HI0.out lt_)) : gb376 ≠ g)); replace HI0 := mk_ (IsS117.below (IsS117.below HI0.out lt_) hb); clear hb hbox hg) | ((with_reducible refine gate_callee (f := 63) rfl ?_); refine goesL_ (some 15) rfl rfl Try.func63 (by kernel_rfl) rfl #[.pointer (some ⟨g, 0, none⟩)] rfl gl_ ?_; (with_reducible refine (spec_l20Proved.calls k g s0_0 s0_1 t377 t378 t381 t384 w0 _ ?side1 ?side2 A3.out).mono ?_); (case side1 => repeat (first | (with_reducible first | exact HI0.out | apply IsS117.alloc | apply IsS117.drewN | apply IsS117.drew | apply IsS117.set_1 | refine IsS117.far ?_ NB0_376.out _) | exact HI0.out)); (case side2 => repeat (first | (with_reducible first | exact HB.out | apply below_alloc | apply pw_below_drewN | apply below_drew1 | refine below_set ?_ (IsS117.ge HI0.out) | refine below_set ?_ GE376.out) | exact HB.out)); rintro e w7 ⟨v379, v382, rfl, ho0, ho1, hi, hb, hk⟩; refine ⟨_, rfl, ?_⟩; replace BK376 := mk_ (KeepBut.blk hk (g' := gb376) (o := .cells #[.int .i64 0, .slice none 0 0] 51 (0, 0)) (bk_ BK376.out) NB376_0.out (by simp)); have HO380 := mk_ (Kd.S_lower ho0 (keep_size (w := w) (g := g) (row := none) (by repeat (first | (with_reducible first | exact HK.out | apply KeepBut.set_ | apply keep_drewN | apply keep_drew | apply keep_alloc | refine keep_far ?_ GW376.out _) | exact HK.out)))); have HO383 := mk_ (Kd.R_lower ho1 (keep_size (w := w) (g := g) (row := none) (by repeat (first | (with_reducible first | exact HK.out | apply KeepBut.set_ | apply keep_drewN | apply keep_drew | apply keep_alloc | refine keep_far ?_ GW376.out _) | exact HK.out)))); replace HK := mk_ (KeepBut.trans (by repeat (first | (with_reducible first | exact HK.out | apply KeepBut.set_ | apply keep_drewN | apply keep_drew | apply keep_alloc | refine keep_far ?_ GW376.out _) | exact HK.out)) hk (.inl rfl)); replace HB := mk_ (hb); replace HI0 := mk_ (hi); (try clear hb); (try clear ho0); (try clear ho1); obtain ⟨Ao8, co8, eo8⟩ := Kd.S_slice HO380.out; subst eo8; obtain ⟨Ao9, co9, eo9⟩ := Kd.R_slice HO383.out; subst eo9) | ((with_reducible refine gate_callee (f := 38) rfl ?_); refine goesL_ (some 23) rfl rfl Try.func38 (by kernel_rfl) rfl #[.int .i64 t377, .slice Ao8 t378.length co8, .slice Ao9 t381.length co9] rfl gl_ ?_; (with_reducible refine (spec_FindProof.calls k t377 _ _ t378 _ _ t381 t385 t386 t389 _ ?side1 ?side2 ?side3 ?side4 A4.out).mono ?_); (case side1 => exact Kd.C_below (Kd.S_reads' HO380.out).2.2 lt_); (case side2 => exact (Kd.S_reads' HO380.out).2.1); (case side3 => exact Kd.C_below (Kd.R_reads' HO383.out).2.2 lt_); (case side4 => exact (Kd.R_reads' HO383.out).2.1); rintro e w10 ⟨v387, rfl, ho0, hb⟩; refine ⟨_, rfl, ?_⟩; replace HO380 := mk_ (Kd.S_below (Kd.S_below HO380.out lt_) hb); replace HO383 := mk_ (Kd.R_below (Kd.R_below HO383.out lt_) hb); have HO388 := mk_ (Kd.R_lower ho0 (keep_size (w := w) (g := g) (row := none) (by repeat (first | (with_reducible first | exact HK.out | apply KeepBut.set_ | apply keep_drewN | apply keep_drew | apply keep_alloc | refine keep_far ?_ GW376.out _) | exact HK.out)))); replace BK376 := mk_ (blk_below (g := gb376) (o := .cells #[.int .i64 0, .slice none 0 0] 51 (0, 0)) (bk_ BK376.out) hb); replace HK := mk_ (KeepBut.trans (by repeat (first | (with_reducible first | exact HK.out | apply KeepBut.set_ | apply keep_drewN | apply keep_drew | apply keep_alloc | refine keep_far ?_ GW376.out _) | exact HK.out)) (KeepBut.of_below hb g none) (.inl rfl)); replace HB := mk_ (below_step (by repeat (first | (with_reducible first | exact HB.out | apply below_alloc | apply pw_below_drewN | apply below_drew1 | refine below_set ?_ (IsS117.ge HI0.out) | refine below_set ?_ GE376.out) | exact HB.out)) hb); replace HI0 := mk_ (IsS117.below (by repeat (first | (with_reducible first | exact HI0.out | apply IsS117.alloc | apply IsS117.drewN | apply IsS117.drew | apply IsS117.set_1 | refine IsS117.far ?_ NB0_376.out _) | exact HI0.out)) hb); (try clear hb); (try clear ho0)) | ((with_reducible refine gate_dst (N := 11) rfl ?_); refine bx_ 11 #[.int .i64 0, .slice none 0 0] 51 ?_; intro gb390 hg w11 hbox hb; replace HO380 := mk_ (Kd.S_below (Kd.S_below HO380.out lt_) hb); replace HO383 := mk_ (Kd.R_below (Kd.R_below HO383.out lt_) hb); replace HO388 := mk_ (Kd.R_below (Kd.R_below HO388.out lt_) hb); replace HB := mk_ (below_step (by repeat (first | (with_reducible first | exact HB.out | apply below_alloc | apply pw_below_drewN | apply below_drew1 | refine below_set ?_ (IsS117.ge HI0.out) | refine below_set ?_ GE376.out) | exact HB.out)) hb); have BK390 := mk_ (hbox); have GW390 := mk_ ((by rw [hg]; exact (keep_size (w := w) (g := g) (row := none) (by repeat (first | (with_reducible first | exact HK.out | apply KeepBut.set_ | apply keep_drewN | apply keep_drew | apply keep_alloc | refine keep_far ?_ GW376.out _) | exact HK.out))) : w.heap.size ≤ gb390)); have GE390 := mk_ ((Nat.le_trans HW0.out (by rw [hg]; exact (keep_size (w := w) (g := g) (row := none) (by repeat (first | (with_reducible first | exact HK.out | apply KeepBut.set_ | apply keep_drewN | apply keep_drew | apply keep_alloc | refine keep_far ?_ GW376.out _) | exact HK.out))) : w.heap.size ≤ gb390) : w0.heap.size ≤ gb390)); replace HK := mk_ (KeepBut.trans (by repeat (first | (with_reducible first | exact HK.out | apply KeepBut.set_ | apply keep_drewN | apply keep_drew | apply keep_alloc | refine keep_far ?_ GW376.out _) | exact HK.out)) (KeepBut.of_below hb g none) (.inl rfl)); have NB376_390 := mk_ ((by rw [hg]; exact Nat.ne_of_lt (blk_lt (g := gb376) (o := .cells #[.int .i64 0, .slice none 0 0] 51 (0, 0)) (bk_ BK376.out)) : gb376 ≠ gb390)); have NB390_376 := mk_ ((by rw [hg]; exact Nat.ne_of_gt (blk_lt (g := gb376) (o := .cells #[.int .i64 0, .slice none 0 0] 51 (0, 0)) (bk_ BK376.out)) : gb390 ≠ gb376)); replace BK376 := mk_ (blk_below (g := gb376) (o := .cells #[.int .i64 0, .slice none 0 0] 51 (0, 0)) (bk_ BK376.out) hb); have NB0_390 := mk_ ((by rw [hg]; exact Nat.ne_of_lt (IsS117.lt (show IsS117 w0 _ g s0_0 t384 from by repeat (first | (with_reducible first | exact HI0.out | apply IsS117.alloc | apply IsS117.drewN | apply IsS117.drew | apply IsS117.set_1 | refine IsS117.far ?_ NB0_376.out _) | exact HI0.out))) : g ≠ gb390)); have NB390_0 := mk_ ((by rw [hg]; exact Nat.ne_of_gt (IsS117.lt (show IsS117 w0 _ g s0_0 t384 from by repeat (first | (with_reducible first | exact HI0.out | apply IsS117.alloc | apply IsS117.drewN | apply IsS117.drew | apply IsS117.set_1 | refine IsS117.far ?_ NB0_376.out _) | exact HI0.out))) : gb390 ≠ g)); replace HI0 := mk_ (IsS117.below (by repeat (first | (with_reducible first | exact HI0.out | apply IsS117.alloc | apply IsS117.drewN | apply IsS117.drew | apply IsS117.set_1 | refine IsS117.far ?_ NB0_376.out _) | exact HI0.out)) hb); clear hb hbox hg; have hnb12 := NB390_376.out; have hnc12 := NB376_390.out; have hnb13 := NB390_0.out; have hnc13 := NB0_390.out; have hcz14_0 : w11.cell? ⟨gb390, 0, none⟩ = some (.int .i64 0) := (blk_cell BK390.out 0).trans rfl; have hcz14_1 : w11.cell? ⟨gb390, 1, none⟩ = some (.slice none 0 0) := (blk_cell BK390.out 1).trans rfl; have hfz14_0 := blk_frozen BK390.out 0; have hfz14_1 := blk_frozen BK390.out 1; obtain ⟨Ao15, co15, eo15⟩ := Kd.R_slice HO388.out; subst eo15))
 (try simp only [Act.put, z0_, z1_, z2_])
 go_cut [10] (fun v10 wc => ∃ (kq : Nat) (x10_4 : List (S47)) (x391000_4 : Int) (x391001_4 : List (S93)) (u391001 : Value), Aside0 (spec_l20Proof.j0 kq a1 t377 t378 x10_4 s0_0 t384 x391000_4 x391001_4 = some (r1, r2, r3, r4, r5, r6)) ∧ Aside0 (kq ≤ k) ∧ Aside0 (Kd.S k38 38 wc w.heap.size (fun k_ => some k_ ≠ (v10 : Value).ownBlock) (.slice Ao8 t378.length co8) t378) ∧ Aside0 (Kd.R k47 47 wc w.heap.size (fun _ => True) v10 x10_4) ∧ Aside0 (Kd.R k93 93 wc w.heap.size (fun _ => True) u391001 x391001_4) ∧ Aside0 (wc.heap[gb376]? = some (.cells #[.int .i64 0, (.slice none 0 0)] 51 (0, 0))) ∧ Aside0 (wc.heap[gb390]? = some (.cells #[.int .i64 x391000_4, u391001] 51 (0, 0))) ∧ Aside0 (IsS117 w0 wc g s0_0 t384) ∧ Aside0 (KeepBut w wc g none) ∧ Aside0 (Below w0.heap.size w0 wc))
 case first =>
  have H := HC5.out
  clear HC5
  by_cases c16 : t389 = true
  ·subst c16
   rw [if_pos rfl] at H
   have H' := mk_ H
   clear H
   go_wp2
   go_meet
   case rel => exact ⟨_, (t381), (t385), (t386), (.slice Ao15 t386.length co15), H', ⟨by first | omega | exact Nat.le_refl _⟩, ⟨by (with_reducible repeat (first | apply Kd.S_alloc | apply Kd.S_drewN | apply Kd.S_drew)); exact Kd.S_mono (Kd.S_far (p := ⟨gb390, 1, none⟩) (Kd.S_far (p := ⟨gb390, 0, none⟩) (Kd.S_types HO380.out BK390.out (by decide)) (fun _ hk => hk.2) (.int .i64 t385)) (fun _ hk => hk.2) (.slice Ao15 t386.length co15)) (fun _ hk => hk.1)⟩, ⟨by (with_reducible repeat (first | apply Kd.R_alloc | apply Kd.R_drewN | apply Kd.R_drew)); exact Kd.R_mono (Kd.R_far (p := ⟨gb390, 1, none⟩) (Kd.R_far (p := ⟨gb390, 0, none⟩) (Kd.R_types HO383.out BK390.out (by decide)) (fun _ hk => hk.2) (.int .i64 t385)) (fun _ hk => hk.2) (.slice Ao15 t386.length co15)) (fun _ hk => trivial)⟩, ⟨by (with_reducible repeat (first | apply Kd.R_alloc | apply Kd.R_drewN | apply Kd.R_drew)); exact Kd.R_mono (Kd.R_far (p := ⟨gb390, 1, none⟩) (Kd.R_far (p := ⟨gb390, 0, none⟩) (Kd.R_types HO388.out BK390.out (by decide)) (fun _ hk => hk.2) (.int .i64 t385)) (fun _ hk => hk.2) (.slice Ao15 t386.length co15)) (fun _ hk => trivial)⟩, ⟨by refine bs_ ?_; refine blk_far ?_ NB376_390.out _; refine bs_ ?_; refine blk_far ?_ NB376_390.out _; refine bs_ ?_; exact BK376.out⟩, ⟨by refine bs_ ?_; refine blk_put (cs := #[.int .i64 t385, .slice none 0 0]) ?_ 1 _ rfl; refine bs_ ?_; refine blk_put (cs := #[.int .i64 0, .slice none 0 0]) ?_ 0 _ rfl; refine bs_ ?_; exact BK390.out⟩, ⟨by repeat (first | (with_reducible first | exact HI0.out | apply IsS117.alloc | apply IsS117.drewN | apply IsS117.drew | apply IsS117.set_1 | refine IsS117.far ?_ NB0_376.out _ | refine IsS117.far ?_ NB0_390.out _) | exact HI0.out)⟩, ⟨by repeat (first | (with_reducible first | exact HK.out | apply KeepBut.set_ | apply keep_drewN | apply keep_drew | apply keep_alloc | refine keep_far ?_ GW376.out _ | refine keep_far ?_ GW390.out _) | exact HK.out)⟩, ⟨by repeat (first | (with_reducible first | exact HB.out | apply below_alloc | apply pw_below_drewN | apply below_drew1 | refine below_set ?_ (IsS117.ge HI0.out) | refine below_set ?_ GE376.out | refine below_set ?_ GE390.out) | exact HB.out)⟩⟩
  replace c16 := Bool.eq_false_iff.mpr c16
  subst c16
  rw [if_neg Bool.false_ne_true] at H
  obtain ⟨y391, hy391⟩ : ∃ y_ : List (S47), y_ = (([(⟨1, 0⟩ : S47)] : List (S47))) := ⟨_, rfl⟩
  first | (replace H := bn_ hy391 H; try dsimp only at H) | rw [← hy391] at H
  have Ny391 := mk_ hy391
  clear hy391
  replace H := Option.bind_eq_some_iff.mp H
  obtain ⟨⟨t394, t395, t398⟩, A170, H⟩ := H
  try dsimp only at H
  have A17 := mk_ A170
  clear A170
  have H' := mk_ H
  clear H
  go_wp2_with (first | ((with_reducible refine gate_dst (N := 29) rfl ?_); refine Kd.R_lit k47 _ 47 ?hg (N := 29) ?hd (xs := ([(⟨1, 0⟩ : S47)] : List (S47))) (inner := [.int .i64 1, .int .i64 0]) (ok := fun _ => True) (okp := fun _ => True) ?hr ?hp (fun _ hk => hk) trivial (Below.refl _ _) (Nat.le_refl _) (by simp) ?_; (case hd => rfl); (case hg => rfl); (case hr => first | (go_simp; done) | (go_simp; rfl)); (case hp => exact (Reps.c2 (show Kd.M k47 _ _ _ (⟨1, 0⟩ : S47) [.int .i64 1, .int .i64 0] from (k47_mkM _ _ _ (⟨1, 0⟩ : S47) )) (Reps.none _ _))); intro v392 w18 ho19 hb hg_ hnew_; clear hg_ hnew_; (first | rw [← Ny391.out] at ho19 | (simp only [Int.reduceToNat] at ho19; rw [← Ny391.out] at ho19)); replace HO380 := mk_ (Kd.S_elder' (by (with_reducible repeat (first | apply Kd.S_alloc | apply Kd.S_drewN | apply Kd.S_drew)); exact (Kd.S_mono (Kd.S_far (p := ⟨gb390, 1, none⟩) (Kd.S_far (p := ⟨gb390, 0, none⟩) (Kd.S_types HO380.out BK390.out (by decide)) (fun _ hk => hk.2) (.int .i64 t385)) (fun _ hk => hk.2) (.slice Ao15 t386.length co15)) (fun _ h_ => h_.1))) (Kd.R_base ho19) hb); replace HO388 := mk_ (Kd.R_below (by (with_reducible repeat (first | apply Kd.R_alloc | apply Kd.R_drewN | apply Kd.R_drew)); exact (Kd.R_mono (Kd.R_far (p := ⟨gb390, 1, none⟩) (Kd.R_far (p := ⟨gb390, 0, none⟩) (Kd.R_types HO388.out BK390.out (by decide)) (fun _ hk => hk.2) (.int .i64 t385)) (fun _ hk => hk.2) (.slice Ao15 t386.length co15)) (fun _ h_ => h_.1))) hb); have HO393 := mk_ (Kd.R_lower (Kd.R_new' ho19 (Kd.R_lt (by (with_reducible repeat (first | apply Kd.R_alloc | apply Kd.R_drewN | apply Kd.R_drew)); exact (Kd.R_mono (Kd.R_far (p := ⟨gb390, 1, none⟩) (Kd.R_far (p := ⟨gb390, 0, none⟩) (Kd.R_types HO383.out BK390.out (by decide)) (fun _ hk => hk.2) (.int .i64 t385)) (fun _ hk => hk.2) (.slice Ao15 t386.length co15)) (fun _ h_ => h_.1))))) (keep_size (w := w) (g := g) (row := none) (by repeat (first | (with_reducible first | exact HK.out | apply KeepBut.set_ | apply keep_drewN | apply keep_drew | apply keep_alloc | refine keep_far ?_ GW376.out _ | refine keep_far ?_ GW390.out _) | exact HK.out)))); replace BK376 := mk_ (blk_below (g := gb376) (o := .cells #[.int .i64 0, .slice none 0 0] 51 (0, 0)) (by refine bs_ ?_; refine blk_far ?_ NB376_390.out _; refine bs_ ?_; refine blk_far ?_ NB376_390.out _; refine bs_ ?_; exact BK376.out) hb); replace BK390 := mk_ (blk_below (g := gb390) (o := .cells #[.int .i64 t385, .slice Ao15 t386.length co15] 51 (0, 0)) (by refine bs_ ?_; refine blk_put (cs := #[.int .i64 t385, .slice none 0 0]) ?_ 1 _ rfl; refine bs_ ?_; refine blk_put (cs := #[.int .i64 0, .slice none 0 0]) ?_ 0 _ rfl; refine bs_ ?_; exact BK390.out) hb); replace HK := mk_ (KeepBut.trans (by repeat (first | (with_reducible first | exact HK.out | apply KeepBut.set_ | apply keep_drewN | apply keep_drew | apply keep_alloc | refine keep_far ?_ GW376.out _ | refine keep_far ?_ GW390.out _) | exact HK.out)) (KeepBut.of_below hb g none) (.inl rfl)); replace HB := mk_ (below_step (by repeat (first | (with_reducible first | exact HB.out | apply below_alloc | apply pw_below_drewN | apply below_drew1 | refine below_set ?_ (IsS117.ge HI0.out) | refine below_set ?_ GE376.out | refine below_set ?_ GE390.out) | exact HB.out)) hb); replace HI0 := mk_ (IsS117.below (show IsS117 w0 ((w11.setCell ⟨gb390, 0, none⟩ (.int .i64 t385)).setCell ⟨gb390, 1, none⟩ (.slice Ao15 t386.length co15)) g s0_0 t384 from by repeat (first | (with_reducible first | exact HI0.out | apply IsS117.alloc | apply IsS117.drewN | apply IsS117.drew | apply IsS117.set_1 | refine IsS117.far ?_ NB0_376.out _ | refine IsS117.far ?_ NB0_390.out _) | exact HI0.out)) hb); (try clear HO383); clear hb ho19; obtain ⟨Ao20, co20, eo20⟩ := Kd.R_slice HO393.out; subst eo20) | ((with_reducible refine gate_callee (f := 38) rfl ?_); refine goesL_ (some 34) rfl rfl Try.func38 (by kernel_rfl) rfl #[.int .i64 t377, .slice Ao8 t378.length co8, .slice Ao20 y391.length co20] rfl gl_ ?_; (with_reducible refine (spec_FindProof.calls k t377 _ _ t378 _ _ y391 t394 t395 t398 _ ?side1 ?side2 ?side3 ?side4 A17.out).mono ?_); (case side1 => exact Kd.C_below (Kd.S_reads' HO380.out).2.2 lt_); (case side2 => exact (Kd.S_reads' HO380.out).2.1); (case side3 => exact Kd.C_below (Kd.R_reads' HO393.out).2.2 lt_); (case side4 => exact (Kd.R_reads' HO393.out).2.1); rintro e w21 ⟨v396, rfl, ho0, hb⟩; refine ⟨_, rfl, ?_⟩; replace HO380 := mk_ (Kd.S_below (Kd.S_below HO380.out lt_) hb); replace HO393 := mk_ (Kd.R_below (Kd.R_below HO393.out lt_) hb); have HO397 := mk_ (Kd.R_lower (Kd.R_new' ho0 (Kd.R_lt (Kd.R_below HO388.out lt_))) (keep_size (w := w) (g := g) (row := none) (by repeat (first | (with_reducible first | exact HK.out | apply KeepBut.set_ | apply keep_drewN | apply keep_drew | apply keep_alloc | refine keep_far ?_ GW376.out _ | refine keep_far ?_ GW390.out _) | exact HK.out)))); replace BK376 := mk_ (blk_below (g := gb376) (o := .cells #[.int .i64 0, .slice none 0 0] 51 (0, 0)) (bk_ BK376.out) hb); replace BK390 := mk_ (blk_below (g := gb390) (o := .cells #[.int .i64 t385, .slice Ao15 t386.length co15] 51 (0, 0)) (bk_ BK390.out) hb); replace HK := mk_ (KeepBut.trans (by repeat (first | (with_reducible first | exact HK.out | apply KeepBut.set_ | apply keep_drewN | apply keep_drew | apply keep_alloc | refine keep_far ?_ GW376.out _ | refine keep_far ?_ GW390.out _) | exact HK.out)) (KeepBut.of_below hb g none) (.inl rfl)); replace HB := mk_ (below_step (by repeat (first | (with_reducible first | exact HB.out | apply below_alloc | apply pw_below_drewN | apply below_drew1 | refine below_set ?_ (IsS117.ge HI0.out) | refine below_set ?_ GE376.out | refine below_set ?_ GE390.out) | exact HB.out)) hb); replace HI0 := mk_ (IsS117.below (by repeat (first | (with_reducible first | exact HI0.out | apply IsS117.alloc | apply IsS117.drewN | apply IsS117.drew | apply IsS117.set_1 | refine IsS117.far ?_ NB0_376.out _ | refine IsS117.far ?_ NB0_390.out _) | exact HI0.out)) hb); (try clear HO383 HO388); (try clear hb); (try clear ho0); have hnb22 := NB390_376.out; have hnc22 := NB376_390.out; have hnb23 := NB390_0.out; have hnc23 := NB0_390.out; have hcz24_0 : w21.cell? ⟨gb390, 0, none⟩ = some (.int .i64 t385) := (blk_cell BK390.out 0).trans rfl; have hcz24_1 : w21.cell? ⟨gb390, 1, none⟩ = some (.slice Ao15 t386.length co15) := (blk_cell BK390.out 1).trans rfl; have hfz24_0 := blk_frozen BK390.out 0; have hfz24_1 := blk_frozen BK390.out 1; obtain ⟨Ao25, co25, eo25⟩ := Kd.R_slice HO397.out; subst eo25))
  go_meet
  case rel => exact ⟨_, (y391), (t394), (t395), (.slice Ao25 t395.length co25), H', ⟨by first | omega | exact Nat.le_refl _⟩, ⟨by (with_reducible repeat (first | apply Kd.S_alloc | apply Kd.S_drewN | apply Kd.S_drew)); exact Kd.S_mono (Kd.S_far (p := ⟨gb390, 1, none⟩) (Kd.S_far (p := ⟨gb390, 0, none⟩) (Kd.S_types HO380.out BK390.out (by decide)) (fun _ hk => hk.2) (.int .i64 t394)) (fun _ hk => hk.2) (.slice Ao25 t395.length co25)) (fun _ hk => hk.1.2)⟩, ⟨by (with_reducible repeat (first | apply Kd.R_alloc | apply Kd.R_drewN | apply Kd.R_drew)); exact Kd.R_mono (Kd.R_far (p := ⟨gb390, 1, none⟩) (Kd.R_far (p := ⟨gb390, 0, none⟩) (Kd.R_types HO393.out BK390.out (by decide)) (fun _ hk => hk.2) (.int .i64 t394)) (fun _ hk => hk.2) (.slice Ao25 t395.length co25)) (fun _ hk => trivial)⟩, ⟨by (with_reducible repeat (first | apply Kd.R_alloc | apply Kd.R_drewN | apply Kd.R_drew)); exact Kd.R_mono (Kd.R_far (p := ⟨gb390, 1, none⟩) (Kd.R_far (p := ⟨gb390, 0, none⟩) (Kd.R_types HO397.out BK390.out (by decide)) (fun _ hk => hk.2) (.int .i64 t394)) (fun _ hk => hk.2) (.slice Ao25 t395.length co25)) (fun _ hk => trivial)⟩, ⟨by refine bs_ ?_; refine blk_far ?_ NB376_390.out _; refine bs_ ?_; refine blk_far ?_ NB376_390.out _; refine bs_ ?_; exact BK376.out⟩, ⟨by refine bs_ ?_; refine blk_put (cs := #[.int .i64 t394, .slice Ao15 t386.length co15]) ?_ 1 _ rfl; refine bs_ ?_; refine blk_put (cs := #[.int .i64 t385, .slice Ao15 t386.length co15]) ?_ 0 _ rfl; refine bs_ ?_; exact BK390.out⟩, ⟨by repeat (first | (with_reducible first | exact HI0.out | apply IsS117.alloc | apply IsS117.drewN | apply IsS117.drew | apply IsS117.set_1 | refine IsS117.far ?_ NB0_376.out _ | refine IsS117.far ?_ NB0_390.out _) | exact HI0.out)⟩, ⟨by repeat (first | (with_reducible first | exact HK.out | apply KeepBut.set_ | apply keep_drewN | apply keep_drew | apply keep_alloc | refine keep_far ?_ GW376.out _ | refine keep_far ?_ GW390.out _) | exact HK.out)⟩, ⟨by repeat (first | (with_reducible first | exact HB.out | apply below_alloc | apply pw_below_drewN | apply below_drew1 | refine below_set ?_ (IsS117.ge HI0.out) | refine below_set ?_ GE376.out | refine below_set ?_ GE390.out) | exact HB.out)⟩⟩
 clear HC5
 try clear c1
 try clear c2
 try clear p2
 try clear c3
 try clear c6
 try clear c8
 try clear c12
 try clear c13
 try clear c16
 try clear c22
 try clear c23
 try clear hcz14_0
 try clear hcz14_1
 try clear hcz24_0
 try clear hcz24_1
 try clear hfz14_0
 try clear hfz14_1
 try clear hfz24_0
 try clear hfz24_1
 obtain ⟨kq, x10_4, x391000_4, x391001_4, u391001, HA, HJ4, HO_9, HO_10, HO_391001, BK376, BK390, HI0, HK, HB⟩ := hcut
 cases kq with
 | zero => exact absurd HA.out (by simp [spec_l20Proof.j0])
 | succ kj4 =>
  have H := HA.out
  clear HA
  simp only [spec_l20Proof.j0] at H
  replace H := Option.bind_eq_some_iff.mp H
  obtain ⟨⟨t399, t400⟩, A260, H⟩ := H
  try dsimp only at H
  have A26 := mk_ A260
  clear A260
  by_cases c27 : t399 = true
  rotate_left
  ·replace c27 := Bool.eq_false_iff.mpr c27
   subst c27
   rw [if_neg Bool.false_ne_true] at H
   simp only [Option.some.injEq, Prod.mk.injEq] at H
   obtain ⟨rfl, rfl, rfl, rfl, rfl, rfl⟩ := H
   try go_wp2_with (first | ((with_reducible refine gate_callee (f := 88) rfl ?_); refine goesL_ (some 39) rfl rfl Try.func88 (by kernel_rfl) rfl #[.pointer (some ⟨g, 0, none⟩), .int .i64 a1] rfl gl_ ?_; (with_reducible refine (spec_l20Rd_odd.calls kj4 g s0_0 t384 a1 false t400 w0 _ ?side1 ?side2 A26.out).mono ?_); (case side1 => repeat (first | (with_reducible first | exact HI0.out | apply IsS117.alloc | apply IsS117.drewN | apply IsS117.drew | apply IsS117.set_1 | refine IsS117.far ?_ NB0_376.out _ | refine IsS117.far ?_ NB0_390.out _) | exact HI0.out)); (case side2 => repeat (first | (with_reducible first | exact HB.out | apply below_alloc | apply pw_below_drewN | apply below_drew1 | refine below_set ?_ (IsS117.ge HI0.out) | refine below_set ?_ GE376.out | refine below_set ?_ GE390.out) | exact HB.out)); rintro e w112 ⟨rfl, hi, hb, hk⟩; refine ⟨_, rfl, ?_⟩; replace HO_9 := mk_ (Kd.S_mono (Kd.S_keep (IsS117.apartS (show IsS117 w0 _ g s0_0 t384 from by repeat (first | (with_reducible first | exact HI0.out | apply IsS117.alloc | apply IsS117.drewN | apply IsS117.drew | apply IsS117.set_1 | refine IsS117.far ?_ NB0_376.out _ | refine IsS117.far ?_ NB0_390.out _) | exact HI0.out)) (Kd.S_below HO_9.out lt_) (by decide)) hk (fun _ h => h.2)) (fun _ h => h.1)); replace HO_10 := mk_ (Kd.R_mono (Kd.R_keep (IsS117.apart (show IsS117 w0 _ g s0_0 t384 from by repeat (first | (with_reducible first | exact HI0.out | apply IsS117.alloc | apply IsS117.drewN | apply IsS117.drew | apply IsS117.set_1 | refine IsS117.far ?_ NB0_376.out _ | refine IsS117.far ?_ NB0_390.out _) | exact HI0.out)) (Kd.R_below HO_10.out lt_) (by decide)) hk (fun _ h => h.2)) (fun _ h => h.1)); replace HO_391001 := mk_ (Kd.R_mono (Kd.R_keep (IsS117.apart (show IsS117 w0 _ g s0_0 t384 from by repeat (first | (with_reducible first | exact HI0.out | apply IsS117.alloc | apply IsS117.drewN | apply IsS117.drew | apply IsS117.set_1 | refine IsS117.far ?_ NB0_376.out _ | refine IsS117.far ?_ NB0_390.out _) | exact HI0.out)) (Kd.R_below HO_391001.out lt_) (by decide)) hk (fun _ h => h.2)) (fun _ h => h.1)); replace BK376 := mk_ (KeepBut.blk hk (g' := gb376) (o := .cells #[.int .i64 0, .slice none 0 0] 51 (0, 0)) (bk_ BK376.out) NB376_0.out (by simp)); replace BK390 := mk_ (KeepBut.blk hk (g' := gb390) (o := .cells #[.int .i64 x391000_4, u391001] 51 (0, 0)) (bk_ BK390.out) NB390_0.out (by simp)); replace HK := mk_ (KeepBut.trans (by repeat (first | (with_reducible first | exact HK.out | apply KeepBut.set_ | apply keep_drewN | apply keep_drew | apply keep_alloc | refine keep_far ?_ GW376.out _ | refine keep_far ?_ GW390.out _) | exact HK.out)) hk (.inl rfl)); replace HB := mk_ (hb); replace HI0 := mk_ (hi); (try clear hb)))
   replace HO_9 := mk_ (Kd.S_drew HO_9.out)
   replace HO_10 := mk_ (Kd.R_drew HO_10.out)
   replace HO_391001 := mk_ (Kd.R_drew HO_391001.out)
   replace BK376 := mk_ (blk_drew BK376.out)
   replace BK390 := mk_ (blk_drew BK390.out)
   replace HI0 := mk_ (IsS117.drew HI0.out)
   replace HK := mk_ (keep_drew HK.out)
   replace HB := mk_ (below_drew1 HB.out)
   obtain ⟨Ao115, co115, eo115⟩ := Kd.R_slice HO_391001.out
   (first | subst eo115 | (injection eo115 with f1_ f2_ f3_; have f4_ := f1_.symm; have f5_ := f3_.symm; clear f1_ f2_ f3_; subst f4_; subst f5_))
   refine start_ (n := 8) (S := fun w' => w'.cell? ⟨gb390, 0, none⟩ = some (.int .i64 x391000_4) ∧ w'.cell? ⟨gb390, 1, none⟩ = some (.slice Ao115 x391001_4.length co115)) (ds := []) #[false, false, false, false, false, false, false, false] (by kernel_rfl) rfl rfl ⟨(blk_cell BK390.out 0).trans rfl, (blk_cell BK390.out 1).trans rfl⟩ (fun hHeld => ?_); refine with_tabW spec_l20Proof.tab17 spec_l20Proof.bits17 (fun HT_ HW_ => ?_)
   generalize w112.drew = w113 at HO_9 HO_10 HO_391001 BK376 HI0 HK HB hHeld ⊢
   refine pus_ 0 (some 86) (ao_ HT_) ?_
   refine pus_ 1 (some 87) (ao_ HT_) ?_
   refine pus_ 2 (some 88) (ao_ HT_) ?_
   refine pus_ 4 (some 4) (ao_ HT_) ?_
   refine pus_ 5 (some 5) (ao_ HT_) ?_
   refine pus_ 6 (some 6) (ao_ HT_) ?_
   refine tas_ 3 (some 89) (to_ HT_ HW_) hHeld ?_
   refine ons_ 7 none (oo_ HT_) (fun K hK => ?_)
   have hs114 : w113.cell? ⟨gb376, 0, none⟩ = some (.int .i64 0) := (blk_cell BK376.out 0).trans rfl
   have hfs114 := blk_frozen BK376.out 0
   have hns114_1 := NB390_376.out
   have hms114_1 := NB376_390.out
   have hs116 : w113.cell? ⟨gb376, 1, none⟩ = some (.slice none 0 0) := (blk_cell BK376.out 1).trans rfl
   have hfs116 := blk_frozen BK376.out 1
   have hns116_1 := NB390_376.out
   have hms116_1 := NB376_390.out
   refine skip_ (w1 := ?_) (by rfl) rfl ?_ ?_
   rotate_left
   ·go_simp
    rfl
   refine hK.out _ _ ⟨((cell_far (p := ⟨gb376, _, none⟩) NB390_376.out _).trans (((cell_far (p := ⟨gb376, _, none⟩) NB390_376.out _).trans (hHeld.1)))), ((cell_far (p := ⟨gb376, _, none⟩) NB390_376.out _).trans (((cell_far (p := ⟨gb376, _, none⟩) NB390_376.out _).trans (hHeld.2))))⟩ (fun hHeld => ?_)
   clear hK K
   refine done_ (done_of HT_.out (by kernel_rfl)) ?_
   try go_wp2
   refine bodyPost_ret (results_list (rs := [.tmp 4, .tmp 5, .tmp 6, .cell 7 51]) rfl (by simp) (.tmp (.tmp (.tmp (.cell gb376 51 #[.int .i64 x391000_4, .slice Ao115 x391001_4.length co115] (0, 0) _ rfl (by refine bs_ ?_; refine blk_put (cs := #[.int .i64 x391000_4, .slice none 0 0]) ?_ 1 _ rfl; refine bs_ ?_; refine blk_put (cs := #[.int .i64 0, .slice none 0 0]) ?_ 0 _ rfl; refine bs_ ?_; exact BK376.out) Try.underlying51 rfl (by kernel_rfl) .nil))))) rfl ?_
   exact ⟨_, _, _, er_, by (with_reducible repeat (first | apply Kd.S_alloc | apply Kd.S_drewN | apply Kd.S_drew)); exact Kd.S_mono (Kd.S_far (p := ⟨gb376, 1, none⟩) (Kd.S_far (p := ⟨gb376, 0, none⟩) (Kd.S_types HO_9.out BK376.out (by decide)) (fun _ hk => hk.2) (.int .i64 x391000_4)) (fun _ hk => hk.2) (.slice Ao115 x391001_4.length co115)) (fun _ hk => hk.1), by (with_reducible repeat (first | apply Kd.R_alloc | apply Kd.R_drewN | apply Kd.R_drew)); exact Kd.R_mono (Kd.R_far (p := ⟨gb376, 1, none⟩) (Kd.R_far (p := ⟨gb376, 0, none⟩) (Kd.R_types HO_10.out BK376.out (by decide)) (fun _ hk => hk.2) (.int .i64 x391000_4)) (fun _ hk => hk.2) (.slice Ao115 x391001_4.length co115)) (fun _ hk => trivial), by (with_reducible repeat (first | apply Kd.R_alloc | apply Kd.R_drewN | apply Kd.R_drew)); exact Kd.R_mono (Kd.R_far (p := ⟨gb376, 1, none⟩) (Kd.R_far (p := ⟨gb376, 0, none⟩) (Kd.R_types HO_391001.out BK376.out (by decide)) (fun _ hk => hk.2) (.int .i64 x391000_4)) (fun _ hk => hk.2) (.slice Ao115 x391001_4.length co115)) (fun _ hk => trivial), by repeat (first | (with_reducible first | exact HI0.out | apply IsS117.alloc | apply IsS117.drewN | apply IsS117.drew | apply IsS117.set_1 | refine IsS117.far ?_ NB0_376.out _ | refine IsS117.far ?_ NB0_390.out _) | exact HI0.out), by repeat (first | (with_reducible first | exact HB.out | apply below_alloc | apply pw_below_drewN | apply below_drew1 | refine below_set ?_ (IsS117.ge HI0.out) | refine below_set ?_ GE376.out | refine below_set ?_ GE390.out) | exact HB.out), by repeat (first | (with_reducible first | exact HK.out | apply KeepBut.set_ | apply keep_drewN | apply keep_drew | apply keep_alloc | refine keep_far ?_ GW376.out _ | refine keep_far ?_ GW390.out _) | exact HK.out)⟩
  subst c27
  rw [if_pos rfl] at H
  replace H := Option.bind_eq_some_iff.mp H
  obtain ⟨⟨t401, t402⟩, A280, H⟩ := H
  try dsimp only at H
  have A28 := mk_ A280
  clear A280
  by_cases c29 : t401 = 0
  ·rw [if_pos c29] at H
   have c29b0 : (t401 == 0) = true := beq_iff_eq.mpr c29
   have c29b1 : (t401 != 0) = false := bne_eq_false_iff_eq.mpr c29
   clear c29
   replace H := Option.bind_eq_some_iff.mp H
   obtain ⟨⟨t403, t404⟩, A300, H⟩ := H
   try dsimp only at H
   have A30 := mk_ A300
   clear A300
   simp only [Option.some.injEq, Prod.mk.injEq] at H
   obtain ⟨rfl, rfl, rfl, rfl, rfl, rfl⟩ := H
   try go_wp2_with (first | ((with_reducible refine gate_callee (f := 88) rfl ?_); refine goesL_ (some 39) rfl rfl Try.func88 (by kernel_rfl) rfl #[.pointer (some ⟨g, 0, none⟩), .int .i64 a1] rfl gl_ ?_; (with_reducible refine (spec_l20Rd_odd.calls kj4 g s0_0 t384 a1 true t400 w0 _ ?side1 ?side2 A26.out).mono ?_); (case side1 => repeat (first | (with_reducible first | exact HI0.out | apply IsS117.alloc | apply IsS117.drewN | apply IsS117.drew | apply IsS117.set_1 | refine IsS117.far ?_ NB0_376.out _ | refine IsS117.far ?_ NB0_390.out _) | exact HI0.out)); (case side2 => repeat (first | (with_reducible first | exact HB.out | apply below_alloc | apply pw_below_drewN | apply below_drew1 | refine below_set ?_ (IsS117.ge HI0.out) | refine below_set ?_ GE376.out | refine below_set ?_ GE390.out) | exact HB.out)); rintro e w31 ⟨rfl, hi, hb, hk⟩; refine ⟨_, rfl, ?_⟩; replace HO_9 := mk_ (Kd.S_mono (Kd.S_keep (IsS117.apartS (show IsS117 w0 _ g s0_0 t384 from by repeat (first | (with_reducible first | exact HI0.out | apply IsS117.alloc | apply IsS117.drewN | apply IsS117.drew | apply IsS117.set_1 | refine IsS117.far ?_ NB0_376.out _ | refine IsS117.far ?_ NB0_390.out _) | exact HI0.out)) (Kd.S_below HO_9.out lt_) (by decide)) hk (fun _ h => h.2)) (fun _ h => h.1)); replace HO_10 := mk_ (Kd.R_mono (Kd.R_keep (IsS117.apart (show IsS117 w0 _ g s0_0 t384 from by repeat (first | (with_reducible first | exact HI0.out | apply IsS117.alloc | apply IsS117.drewN | apply IsS117.drew | apply IsS117.set_1 | refine IsS117.far ?_ NB0_376.out _ | refine IsS117.far ?_ NB0_390.out _) | exact HI0.out)) (Kd.R_below HO_10.out lt_) (by decide)) hk (fun _ h => h.2)) (fun _ h => h.1)); replace HO_391001 := mk_ (Kd.R_mono (Kd.R_keep (IsS117.apart (show IsS117 w0 _ g s0_0 t384 from by repeat (first | (with_reducible first | exact HI0.out | apply IsS117.alloc | apply IsS117.drewN | apply IsS117.drew | apply IsS117.set_1 | refine IsS117.far ?_ NB0_376.out _ | refine IsS117.far ?_ NB0_390.out _) | exact HI0.out)) (Kd.R_below HO_391001.out lt_) (by decide)) hk (fun _ h => h.2)) (fun _ h => h.1)); replace BK376 := mk_ (KeepBut.blk hk (g' := gb376) (o := .cells #[.int .i64 0, .slice none 0 0] 51 (0, 0)) (bk_ BK376.out) NB376_0.out (by simp)); replace BK390 := mk_ (KeepBut.blk hk (g' := gb390) (o := .cells #[.int .i64 x391000_4, u391001] 51 (0, 0)) (bk_ BK390.out) NB390_0.out (by simp)); replace HK := mk_ (KeepBut.trans (by repeat (first | (with_reducible first | exact HK.out | apply KeepBut.set_ | apply keep_drewN | apply keep_drew | apply keep_alloc | refine keep_far ?_ GW376.out _ | refine keep_far ?_ GW390.out _) | exact HK.out)) hk (.inl rfl)); replace HB := mk_ (hb); replace HI0 := mk_ (hi); (try clear hb)) | ((with_reducible refine gate_callee (f := 60) rfl ?_); refine goesL_ (some 41) rfl rfl Try.func60 (by kernel_rfl) rfl #[.pointer (some ⟨g, 0, none⟩), .int .i64 4] rfl gl_ ?_; (with_reducible refine (spec_l20Rd_pick.calls kj4 g s0_0 t400 4 t401 t402 w0 _ ?side1 ?side2 A28.out).mono ?_); (case side1 => repeat (first | (with_reducible first | exact HI0.out | apply IsS117.alloc | apply IsS117.drewN | apply IsS117.drew | apply IsS117.set_1 | refine IsS117.far ?_ NB0_376.out _ | refine IsS117.far ?_ NB0_390.out _) | exact HI0.out)); (case side2 => repeat (first | (with_reducible first | exact HB.out | apply below_alloc | apply pw_below_drewN | apply below_drew1 | refine below_set ?_ (IsS117.ge HI0.out) | refine below_set ?_ GE376.out | refine below_set ?_ GE390.out) | exact HB.out)); rintro e w32 ⟨rfl, hi, hb, hk⟩; refine ⟨_, rfl, ?_⟩; replace HO_9 := mk_ (Kd.S_mono (Kd.S_keep (IsS117.apartS (show IsS117 w0 _ g s0_0 t400 from by repeat (first | (with_reducible first | exact HI0.out | apply IsS117.alloc | apply IsS117.drewN | apply IsS117.drew | apply IsS117.set_1 | refine IsS117.far ?_ NB0_376.out _ | refine IsS117.far ?_ NB0_390.out _) | exact HI0.out)) (Kd.S_below HO_9.out lt_) (by decide)) hk (fun _ h => h.2)) (fun _ h => h.1)); replace HO_10 := mk_ (Kd.R_mono (Kd.R_keep (IsS117.apart (show IsS117 w0 _ g s0_0 t400 from by repeat (first | (with_reducible first | exact HI0.out | apply IsS117.alloc | apply IsS117.drewN | apply IsS117.drew | apply IsS117.set_1 | refine IsS117.far ?_ NB0_376.out _ | refine IsS117.far ?_ NB0_390.out _) | exact HI0.out)) (Kd.R_below HO_10.out lt_) (by decide)) hk (fun _ h => h.2)) (fun _ h => h.1)); replace HO_391001 := mk_ (Kd.R_mono (Kd.R_keep (IsS117.apart (show IsS117 w0 _ g s0_0 t400 from by repeat (first | (with_reducible first | exact HI0.out | apply IsS117.alloc | apply IsS117.drewN | apply IsS117.drew | apply IsS117.set_1 | refine IsS117.far ?_ NB0_376.out _ | refine IsS117.far ?_ NB0_390.out _) | exact HI0.out)) (Kd.R_below HO_391001.out lt_) (by decide)) hk (fun _ h => h.2)) (fun _ h => h.1)); replace BK376 := mk_ (KeepBut.blk hk (g' := gb376) (o := .cells #[.int .i64 0, .slice none 0 0] 51 (0, 0)) (bk_ BK376.out) NB376_0.out (by simp)); replace BK390 := mk_ (KeepBut.blk hk (g' := gb390) (o := .cells #[.int .i64 x391000_4, u391001] 51 (0, 0)) (bk_ BK390.out) NB390_0.out (by simp)); replace HK := mk_ (KeepBut.trans (by repeat (first | (with_reducible first | exact HK.out | apply KeepBut.set_ | apply keep_drewN | apply keep_drew | apply keep_alloc | refine keep_far ?_ GW376.out _ | refine keep_far ?_ GW390.out _) | exact HK.out)) hk (.inl rfl)); replace HB := mk_ (hb); replace HI0 := mk_ (hi); (try clear hb)) | ((with_reducible refine gate_callee (f := 60) rfl ?_); refine goesL_ (some 56) rfl rfl Try.func60 (by kernel_rfl) rfl #[.pointer (some ⟨g, 0, none⟩), .int .i64 4] rfl gl_ ?_; (with_reducible refine (spec_l20Rd_pick.calls kj4 g s0_0 t402 4 t403 t404 w0 _ ?side1 ?side2 A30.out).mono ?_); (case side1 => repeat (first | (with_reducible first | exact HI0.out | apply IsS117.alloc | apply IsS117.drewN | apply IsS117.drew | apply IsS117.set_1 | refine IsS117.far ?_ NB0_376.out _ | refine IsS117.far ?_ NB0_390.out _) | exact HI0.out)); (case side2 => repeat (first | (with_reducible first | exact HB.out | apply below_alloc | apply pw_below_drewN | apply below_drew1 | refine below_set ?_ (IsS117.ge HI0.out) | refine below_set ?_ GE376.out | refine below_set ?_ GE390.out) | exact HB.out)); rintro e w33 ⟨rfl, hi, hb, hk⟩; refine ⟨_, rfl, ?_⟩; replace HO_9 := mk_ (Kd.S_mono (Kd.S_keep (IsS117.apartS (show IsS117 w0 _ g s0_0 t402 from by repeat (first | (with_reducible first | exact HI0.out | apply IsS117.alloc | apply IsS117.drewN | apply IsS117.drew | apply IsS117.set_1 | refine IsS117.far ?_ NB0_376.out _ | refine IsS117.far ?_ NB0_390.out _) | exact HI0.out)) (Kd.S_below HO_9.out lt_) (by decide)) hk (fun _ h => h.2)) (fun _ h => h.1)); replace HO_10 := mk_ (Kd.R_mono (Kd.R_keep (IsS117.apart (show IsS117 w0 _ g s0_0 t402 from by repeat (first | (with_reducible first | exact HI0.out | apply IsS117.alloc | apply IsS117.drewN | apply IsS117.drew | apply IsS117.set_1 | refine IsS117.far ?_ NB0_376.out _ | refine IsS117.far ?_ NB0_390.out _) | exact HI0.out)) (Kd.R_below HO_10.out lt_) (by decide)) hk (fun _ h => h.2)) (fun _ h => h.1)); replace HO_391001 := mk_ (Kd.R_mono (Kd.R_keep (IsS117.apart (show IsS117 w0 _ g s0_0 t402 from by repeat (first | (with_reducible first | exact HI0.out | apply IsS117.alloc | apply IsS117.drewN | apply IsS117.drew | apply IsS117.set_1 | refine IsS117.far ?_ NB0_376.out _ | refine IsS117.far ?_ NB0_390.out _) | exact HI0.out)) (Kd.R_below HO_391001.out lt_) (by decide)) hk (fun _ h => h.2)) (fun _ h => h.1)); replace BK376 := mk_ (KeepBut.blk hk (g' := gb376) (o := .cells #[.int .i64 0, .slice none 0 0] 51 (0, 0)) (bk_ BK376.out) NB376_0.out (by simp)); replace BK390 := mk_ (KeepBut.blk hk (g' := gb390) (o := .cells #[.int .i64 x391000_4, u391001] 51 (0, 0)) (bk_ BK390.out) NB390_0.out (by simp)); replace HK := mk_ (KeepBut.trans (by repeat (first | (with_reducible first | exact HK.out | apply KeepBut.set_ | apply keep_drewN | apply keep_drew | apply keep_alloc | refine keep_far ?_ GW376.out _ | refine keep_far ?_ GW390.out _) | exact HK.out)) hk (.inl rfl)); replace HB := mk_ (hb); replace HI0 := mk_ (hi); (try clear hb); have hnb34 := NB390_376.out; have hnc34 := NB376_390.out; have hnb35 := NB390_0.out; have hnc35 := NB0_390.out; have hcz36_0 : w33.cell? ⟨gb390, 0, none⟩ = some (.int .i64 x391000_4) := (blk_cell BK390.out 0).trans rfl; have hcz36_1 : w33.cell? ⟨gb390, 1, none⟩ = some (u391001) := (blk_cell BK390.out 1).trans rfl; have hfz36_0 := blk_frozen BK390.out 0; have hfz36_1 := blk_frozen BK390.out 1))
   have n0_ : Aside0 (Kd.S k38 38 (w33.setCell ⟨gb390, 0, none⟩ (.int .i64 (wrap64 (t403 - 3)))) w.heap.size (fun k_ => some k_ ≠ (u10 : Value).ownBlock) (.slice Ao8 t378.length co8) t378) := ⟨by (with_reducible repeat (first | apply Kd.S_alloc | apply Kd.S_drewN | apply Kd.S_drew)); exact Kd.S_mono (Kd.S_far (p := ⟨gb390, 0, none⟩) (Kd.S_types HO_9.out BK390.out (by decide)) (fun _ hk => hk.2) (.int .i64 (wrap64 (t403 - 3)))) (fun _ hk => hk.1)⟩
   have n1_ : Aside0 (Kd.R k47 47 (w33.setCell ⟨gb390, 0, none⟩ (.int .i64 (wrap64 (t403 - 3)))) w.heap.size (fun _ => True) u10 x10_4) := ⟨by (with_reducible repeat (first | apply Kd.R_alloc | apply Kd.R_drewN | apply Kd.R_drew)); exact Kd.R_mono (Kd.R_far (p := ⟨gb390, 0, none⟩) (Kd.R_types HO_10.out BK390.out (by decide)) (fun _ hk => hk.2) (.int .i64 (wrap64 (t403 - 3)))) (fun _ hk => trivial)⟩
   have n2_ : Aside0 (Kd.R k93 93 (w33.setCell ⟨gb390, 0, none⟩ (.int .i64 (wrap64 (t403 - 3)))) w.heap.size (fun _ => True) u391001 x391001_4) := ⟨by (with_reducible repeat (first | apply Kd.R_alloc | apply Kd.R_drewN | apply Kd.R_drew)); exact Kd.R_mono (Kd.R_far (p := ⟨gb390, 0, none⟩) (Kd.R_types HO_391001.out BK390.out (by decide)) (fun _ hk => hk.2) (.int .i64 (wrap64 (t403 - 3)))) (fun _ hk => trivial)⟩
   have n3_ : Aside0 ((w33.setCell ⟨gb390, 0, none⟩ (.int .i64 (wrap64 (t403 - 3)))).heap[gb376]? = some (.cells #[.int .i64 0, .slice none 0 0] 51 (0, 0))) := ⟨by refine bs_ ?_; refine blk_far ?_ NB376_390.out _; refine bs_ ?_; exact BK376.out⟩
   have n4_ : Aside0 ((w33.setCell ⟨gb390, 0, none⟩ (.int .i64 (wrap64 (t403 - 3)))).heap[gb390]? = some (.cells #[.int .i64 (wrap64 (t403 - 3)), u391001] 51 (0, 0))) := ⟨by refine bs_ ?_; refine blk_put (cs := #[.int .i64 x391000_4, u391001]) ?_ 0 _ rfl; refine bs_ ?_; exact BK390.out⟩
   have n5_ : Aside0 (IsS117 w0 (w33.setCell ⟨gb390, 0, none⟩ (.int .i64 (wrap64 (t403 - 3)))) g s0_0 t404) := ⟨by repeat (first | (with_reducible first | exact HI0.out | apply IsS117.alloc | apply IsS117.drewN | apply IsS117.drew | apply IsS117.set_1 | refine IsS117.far ?_ NB0_376.out _ | refine IsS117.far ?_ NB0_390.out _) | exact HI0.out)⟩
   have n6_ : Aside0 (KeepBut w (w33.setCell ⟨gb390, 0, none⟩ (.int .i64 (wrap64 (t403 - 3)))) g none) := ⟨by repeat (first | (with_reducible first | exact HK.out | apply KeepBut.set_ | apply keep_drewN | apply keep_drew | apply keep_alloc | refine keep_far ?_ GW376.out _ | refine keep_far ?_ GW390.out _) | exact HK.out)⟩
   have n7_ : Aside0 (Below w0.heap.size w0 (w33.setCell ⟨gb390, 0, none⟩ (.int .i64 (wrap64 (t403 - 3))))) := ⟨by repeat (first | (with_reducible first | exact HB.out | apply below_alloc | apply pw_below_drewN | apply below_drew1 | refine below_set ?_ (IsS117.ge HI0.out) | refine below_set ?_ GE376.out | refine below_set ?_ GE390.out) | exact HB.out)⟩
   (try clear HO_9)
   (try clear HO_10)
   (try clear HO_391001)
   (try clear BK376)
   (try clear BK390)
   (try clear HI0)
   (try clear HK)
   (try clear HB)
   generalize (w33.setCell ⟨gb390, 0, none⟩ (.int .i64 (wrap64 (t403 - 3)))) = w37 at n0_ n1_ n2_ n3_ n4_ n5_ n6_ n7_ ⊢
   have HO_9 := n0_
   have HO_10 := n1_
   have HO_391001 := n2_
   have BK376 := n3_
   have BK390 := n4_
   have HI0 := n5_
   have HK := n6_
   have HB := n7_
   clear n0_ n1_ n2_ n3_ n4_ n5_ n6_ n7_
   replace HO_9 := mk_ (Kd.S_drew HO_9.out)
   replace HO_10 := mk_ (Kd.R_drew HO_10.out)
   replace HO_391001 := mk_ (Kd.R_drew HO_391001.out)
   replace BK376 := mk_ (blk_drew BK376.out)
   replace BK390 := mk_ (blk_drew BK390.out)
   replace HI0 := mk_ (IsS117.drew HI0.out)
   replace HK := mk_ (keep_drew HK.out)
   replace HB := mk_ (below_drew1 HB.out)
   obtain ⟨Ao40, co40, eo40⟩ := Kd.R_slice HO_391001.out
   (first | subst eo40 | (injection eo40 with f1_ f2_ f3_; have f4_ := f1_.symm; have f5_ := f3_.symm; clear f1_ f2_ f3_; subst f4_; subst f5_))
   refine start_ (n := 8) (S := fun w' => w'.cell? ⟨gb390, 0, none⟩ = some (.int .i64 (wrap64 (t403 - 3))) ∧ w'.cell? ⟨gb390, 1, none⟩ = some (.slice Ao40 x391001_4.length co40)) (ds := []) #[false, false, false, false, false, false, false, false] (by kernel_rfl) rfl rfl ⟨(blk_cell BK390.out 0).trans rfl, (blk_cell BK390.out 1).trans rfl⟩ (fun hHeld => ?_); refine with_tabW spec_l20Proof.tab17 spec_l20Proof.bits17 (fun HT_ HW_ => ?_)
   generalize w37.drew = w38 at HO_9 HO_10 HO_391001 BK376 HI0 HK HB hHeld ⊢
   refine pus_ 0 (some 86) (ao_ HT_) ?_
   refine pus_ 1 (some 87) (ao_ HT_) ?_
   refine pus_ 2 (some 88) (ao_ HT_) ?_
   refine pus_ 4 (some 4) (ao_ HT_) ?_
   refine pus_ 5 (some 5) (ao_ HT_) ?_
   refine pus_ 6 (some 6) (ao_ HT_) ?_
   refine tas_ 3 (some 89) (to_ HT_ HW_) hHeld ?_
   refine ons_ 7 none (oo_ HT_) (fun K hK => ?_)
   have hs39 : w38.cell? ⟨gb376, 0, none⟩ = some (.int .i64 0) := (blk_cell BK376.out 0).trans rfl
   have hfs39 := blk_frozen BK376.out 0
   have hns39_1 := NB390_376.out
   have hms39_1 := NB376_390.out
   have hs41 : w38.cell? ⟨gb376, 1, none⟩ = some (.slice none 0 0) := (blk_cell BK376.out 1).trans rfl
   have hfs41 := blk_frozen BK376.out 1
   have hns41_1 := NB390_376.out
   have hms41_1 := NB376_390.out
   refine skip_ (w1 := ?_) (by rfl) rfl ?_ ?_
   rotate_left
   ·go_simp
    rfl
   refine hK.out _ _ ⟨((cell_far (p := ⟨gb376, _, none⟩) NB390_376.out _).trans (((cell_far (p := ⟨gb376, _, none⟩) NB390_376.out _).trans (hHeld.1)))), ((cell_far (p := ⟨gb376, _, none⟩) NB390_376.out _).trans (((cell_far (p := ⟨gb376, _, none⟩) NB390_376.out _).trans (hHeld.2))))⟩ (fun hHeld => ?_)
   clear hK K
   refine done_ (done_of HT_.out (by kernel_rfl)) ?_
   try go_wp2
   refine bodyPost_ret (results_list (rs := [.tmp 4, .tmp 5, .tmp 6, .cell 7 51]) rfl (by simp) (.tmp (.tmp (.tmp (.cell gb376 51 #[.int .i64 (wrap64 (t403 - 3)), .slice Ao40 x391001_4.length co40] (0, 0) _ rfl (by refine bs_ ?_; refine blk_put (cs := #[.int .i64 (wrap64 (t403 - 3)), .slice none 0 0]) ?_ 1 _ rfl; refine bs_ ?_; refine blk_put (cs := #[.int .i64 0, .slice none 0 0]) ?_ 0 _ rfl; refine bs_ ?_; exact BK376.out) Try.underlying51 rfl (by kernel_rfl) .nil))))) rfl ?_
   exact ⟨_, _, _, er_, by (with_reducible repeat (first | apply Kd.S_alloc | apply Kd.S_drewN | apply Kd.S_drew)); exact Kd.S_mono (Kd.S_far (p := ⟨gb376, 1, none⟩) (Kd.S_far (p := ⟨gb376, 0, none⟩) (Kd.S_types HO_9.out BK376.out (by decide)) (fun _ hk => hk.2) (.int .i64 (wrap64 (t403 - 3)))) (fun _ hk => hk.2) (.slice Ao40 x391001_4.length co40)) (fun _ hk => hk.1), by (with_reducible repeat (first | apply Kd.R_alloc | apply Kd.R_drewN | apply Kd.R_drew)); exact Kd.R_mono (Kd.R_far (p := ⟨gb376, 1, none⟩) (Kd.R_far (p := ⟨gb376, 0, none⟩) (Kd.R_types HO_10.out BK376.out (by decide)) (fun _ hk => hk.2) (.int .i64 (wrap64 (t403 - 3)))) (fun _ hk => hk.2) (.slice Ao40 x391001_4.length co40)) (fun _ hk => trivial), by (with_reducible repeat (first | apply Kd.R_alloc | apply Kd.R_drewN | apply Kd.R_drew)); exact Kd.R_mono (Kd.R_far (p := ⟨gb376, 1, none⟩) (Kd.R_far (p := ⟨gb376, 0, none⟩) (Kd.R_types HO_391001.out BK376.out (by decide)) (fun _ hk => hk.2) (.int .i64 (wrap64 (t403 - 3)))) (fun _ hk => hk.2) (.slice Ao40 x391001_4.length co40)) (fun _ hk => trivial), by repeat (first | (with_reducible first | exact HI0.out | apply IsS117.alloc | apply IsS117.drewN | apply IsS117.drew | apply IsS117.set_1 | refine IsS117.far ?_ NB0_376.out _ | refine IsS117.far ?_ NB0_390.out _) | exact HI0.out), by repeat (first | (with_reducible first | exact HB.out | apply below_alloc | apply pw_below_drewN | apply below_drew1 | refine below_set ?_ (IsS117.ge HI0.out) | refine below_set ?_ GE376.out | refine below_set ?_ GE390.out) | exact HB.out), by repeat (first | (with_reducible first | exact HK.out | apply KeepBut.set_ | apply keep_drewN | apply keep_drew | apply keep_alloc | refine keep_far ?_ GW376.out _ | refine keep_far ?_ GW390.out _) | exact HK.out)⟩
  rw [if_neg c29] at H
  have c29b0 : (t401 == 0) = false := beq_eq_false_iff_ne.mpr c29
  have c29b1 : (t401 != 0) = true := bne_iff_ne.mpr c29
  by_cases c42 : t401 = 1
  ·rw [if_pos c42] at H
   have c42b0 : (t401 == 1) = true := beq_iff_eq.mpr c42
   have c42b1 : (t401 != 1) = false := bne_eq_false_iff_eq.mpr c42
   clear c42
   replace H := Option.bind_eq_some_iff.mp H
   obtain ⟨⟨t405, t406⟩, A430, H⟩ := H
   try dsimp only at H
   have A43 := mk_ A430
   clear A430
   by_cases c44 : x391001_4.length < 5864062014805
   rotate_left
   ·rw [if_neg c44] at H
    exact absurd H (by simp)
   rw [if_pos c44] at H
   have LMc44 := mk_ c44
   clear c44
   obtain ⟨y407, hy407⟩ : ∃ y_ : List (S93), y_ = (x391001_4 ++ [(⟨t405, (-1), (-2)⟩ : S93)]) := ⟨_, rfl⟩
   first | (replace H := bn_ hy407 H; try dsimp only at H) | rw [← hy407] at H
   have Ny407 := mk_ hy407
   clear hy407
   simp only [Option.some.injEq, Prod.mk.injEq] at H
   obtain ⟨rfl, rfl, rfl, rfl, rfl, rfl⟩ := H
   try go_wp2_with (first | ((with_reducible refine gate_callee (f := 88) rfl ?_); refine goesL_ (some 39) rfl rfl Try.func88 (by kernel_rfl) rfl #[.pointer (some ⟨g, 0, none⟩), .int .i64 a1] rfl gl_ ?_; (with_reducible refine (spec_l20Rd_odd.calls kj4 g s0_0 t384 a1 true t400 w0 _ ?side1 ?side2 A26.out).mono ?_); (case side1 => repeat (first | (with_reducible first | exact HI0.out | apply IsS117.alloc | apply IsS117.drewN | apply IsS117.drew | apply IsS117.set_1 | refine IsS117.far ?_ NB0_376.out _ | refine IsS117.far ?_ NB0_390.out _) | exact HI0.out)); (case side2 => repeat (first | (with_reducible first | exact HB.out | apply below_alloc | apply pw_below_drewN | apply below_drew1 | refine below_set ?_ (IsS117.ge HI0.out) | refine below_set ?_ GE376.out | refine below_set ?_ GE390.out) | exact HB.out)); rintro e w45 ⟨rfl, hi, hb, hk⟩; refine ⟨_, rfl, ?_⟩; replace HO_9 := mk_ (Kd.S_mono (Kd.S_keep (IsS117.apartS (show IsS117 w0 _ g s0_0 t384 from by repeat (first | (with_reducible first | exact HI0.out | apply IsS117.alloc | apply IsS117.drewN | apply IsS117.drew | apply IsS117.set_1 | refine IsS117.far ?_ NB0_376.out _ | refine IsS117.far ?_ NB0_390.out _) | exact HI0.out)) (Kd.S_below HO_9.out lt_) (by decide)) hk (fun _ h => h.2)) (fun _ h => h.1)); replace HO_10 := mk_ (Kd.R_mono (Kd.R_keep (IsS117.apart (show IsS117 w0 _ g s0_0 t384 from by repeat (first | (with_reducible first | exact HI0.out | apply IsS117.alloc | apply IsS117.drewN | apply IsS117.drew | apply IsS117.set_1 | refine IsS117.far ?_ NB0_376.out _ | refine IsS117.far ?_ NB0_390.out _) | exact HI0.out)) (Kd.R_below HO_10.out lt_) (by decide)) hk (fun _ h => h.2)) (fun _ h => h.1)); replace HO_391001 := mk_ (Kd.R_mono (Kd.R_keep (IsS117.apart (show IsS117 w0 _ g s0_0 t384 from by repeat (first | (with_reducible first | exact HI0.out | apply IsS117.alloc | apply IsS117.drewN | apply IsS117.drew | apply IsS117.set_1 | refine IsS117.far ?_ NB0_376.out _ | refine IsS117.far ?_ NB0_390.out _) | exact HI0.out)) (Kd.R_below HO_391001.out lt_) (by decide)) hk (fun _ h => h.2)) (fun _ h => h.1)); replace BK376 := mk_ (KeepBut.blk hk (g' := gb376) (o := .cells #[.int .i64 0, .slice none 0 0] 51 (0, 0)) (bk_ BK376.out) NB376_0.out (by simp)); replace BK390 := mk_ (KeepBut.blk hk (g' := gb390) (o := .cells #[.int .i64 x391000_4, u391001] 51 (0, 0)) (bk_ BK390.out) NB390_0.out (by simp)); replace HK := mk_ (KeepBut.trans (by repeat (first | (with_reducible first | exact HK.out | apply KeepBut.set_ | apply keep_drewN | apply keep_drew | apply keep_alloc | refine keep_far ?_ GW376.out _ | refine keep_far ?_ GW390.out _) | exact HK.out)) hk (.inl rfl)); replace HB := mk_ (hb); replace HI0 := mk_ (hi); (try clear hb)) | ((with_reducible refine gate_callee (f := 60) rfl ?_); refine goesL_ (some 41) rfl rfl Try.func60 (by kernel_rfl) rfl #[.pointer (some ⟨g, 0, none⟩), .int .i64 4] rfl gl_ ?_; (with_reducible refine (spec_l20Rd_pick.calls kj4 g s0_0 t400 4 t401 t402 w0 _ ?side1 ?side2 A28.out).mono ?_); (case side1 => repeat (first | (with_reducible first | exact HI0.out | apply IsS117.alloc | apply IsS117.drewN | apply IsS117.drew | apply IsS117.set_1 | refine IsS117.far ?_ NB0_376.out _ | refine IsS117.far ?_ NB0_390.out _) | exact HI0.out)); (case side2 => repeat (first | (with_reducible first | exact HB.out | apply below_alloc | apply pw_below_drewN | apply below_drew1 | refine below_set ?_ (IsS117.ge HI0.out) | refine below_set ?_ GE376.out | refine below_set ?_ GE390.out) | exact HB.out)); rintro e w46 ⟨rfl, hi, hb, hk⟩; refine ⟨_, rfl, ?_⟩; replace HO_9 := mk_ (Kd.S_mono (Kd.S_keep (IsS117.apartS (show IsS117 w0 _ g s0_0 t400 from by repeat (first | (with_reducible first | exact HI0.out | apply IsS117.alloc | apply IsS117.drewN | apply IsS117.drew | apply IsS117.set_1 | refine IsS117.far ?_ NB0_376.out _ | refine IsS117.far ?_ NB0_390.out _) | exact HI0.out)) (Kd.S_below HO_9.out lt_) (by decide)) hk (fun _ h => h.2)) (fun _ h => h.1)); replace HO_10 := mk_ (Kd.R_mono (Kd.R_keep (IsS117.apart (show IsS117 w0 _ g s0_0 t400 from by repeat (first | (with_reducible first | exact HI0.out | apply IsS117.alloc | apply IsS117.drewN | apply IsS117.drew | apply IsS117.set_1 | refine IsS117.far ?_ NB0_376.out _ | refine IsS117.far ?_ NB0_390.out _) | exact HI0.out)) (Kd.R_below HO_10.out lt_) (by decide)) hk (fun _ h => h.2)) (fun _ h => h.1)); replace HO_391001 := mk_ (Kd.R_mono (Kd.R_keep (IsS117.apart (show IsS117 w0 _ g s0_0 t400 from by repeat (first | (with_reducible first | exact HI0.out | apply IsS117.alloc | apply IsS117.drewN | apply IsS117.drew | apply IsS117.set_1 | refine IsS117.far ?_ NB0_376.out _ | refine IsS117.far ?_ NB0_390.out _) | exact HI0.out)) (Kd.R_below HO_391001.out lt_) (by decide)) hk (fun _ h => h.2)) (fun _ h => h.1)); replace BK376 := mk_ (KeepBut.blk hk (g' := gb376) (o := .cells #[.int .i64 0, .slice none 0 0] 51 (0, 0)) (bk_ BK376.out) NB376_0.out (by simp)); replace BK390 := mk_ (KeepBut.blk hk (g' := gb390) (o := .cells #[.int .i64 x391000_4, u391001] 51 (0, 0)) (bk_ BK390.out) NB390_0.out (by simp)); replace HK := mk_ (KeepBut.trans (by repeat (first | (with_reducible first | exact HK.out | apply KeepBut.set_ | apply keep_drewN | apply keep_drew | apply keep_alloc | refine keep_far ?_ GW376.out _ | refine keep_far ?_ GW390.out _) | exact HK.out)) hk (.inl rfl)); replace HB := mk_ (hb); replace HI0 := mk_ (hi); (try clear hb)))
   replace HO_9 := mk_ (Kd.S_drew HO_9.out)
   replace HO_10 := mk_ (Kd.R_drew HO_10.out)
   replace HO_391001 := mk_ (Kd.R_drew HO_391001.out)
   replace BK376 := mk_ (blk_drew BK376.out)
   replace BK390 := mk_ (blk_drew BK390.out)
   replace HI0 := mk_ (IsS117.drew HI0.out)
   replace HK := mk_ (keep_drew HK.out)
   replace HB := mk_ (below_drew1 HB.out)
   refine start_ (n := 9) (S := fun w' => w'.cell? ⟨gb390, 0, none⟩ = some (.int .i64 x391000_4) ∧ w'.cell? ⟨gb390, 1, none⟩ = some (u391001)) (ds := [8]) #[false, false, false, false, false, false, false, false, false] (by kernel_rfl) rfl rfl ⟨(blk_cell BK390.out 0).trans rfl, (blk_cell BK390.out 1).trans rfl⟩ (fun hHeld => ?_); refine with_tabW spec_l20Proof.tab13 spec_l20Proof.bits13 (fun HT_ HW_ => ?_)
   generalize w46.drew = w47 at HO_9 HO_10 HO_391001 BK376 BK390 HI0 HK HB hHeld ⊢
   refine pus_ 0 (some 61) (ao_ HT_) ?_
   refine pus_ 2 (some 63) (ao_ HT_) ?_
   refine tas_ 1 (some 62) (to_ HT_ HW_) hHeld ?_
   refine ons_ 3 (some 64) (oo_ HT_) (fun K hK => ?_)
   refine goes_ Try.func60 (by kernel_rfl) rfl #[.pointer (some ⟨g, 0, none⟩), .int .i64 4] (by rfl) rfl rfl gl_ ?_
   with_reducible refine (spec_l20Rd_pick.calls kj4 g s0_0 t402 4 t405 t406 w0 _ ?side1 ?side2 A43.out).mono ?_
   (case side1 => repeat (first | (with_reducible first | exact HI0.out | apply IsS117.alloc | apply IsS117.drewN | apply IsS117.drew | apply IsS117.set_1 | refine IsS117.far ?_ NB0_376.out _ | refine IsS117.far ?_ NB0_390.out _) | exact HI0.out))
   (case side2 => repeat (first | (with_reducible first | exact HB.out | apply below_alloc | apply pw_below_drewN | apply below_drew1 | refine below_set ?_ (IsS117.ge HI0.out) | refine below_set ?_ GE376.out | refine below_set ?_ GE390.out) | exact HB.out))
   rintro e w48 ⟨rfl, hi, hb, hk⟩
   refine ⟨_, rfl, ?_⟩
   replace HO_9 := mk_ (Kd.S_mono (Kd.S_keep (IsS117.apartS (show IsS117 w0 _ g s0_0 t402 from by repeat (first | (with_reducible first | exact HI0.out | apply IsS117.alloc | apply IsS117.drewN | apply IsS117.drew | apply IsS117.set_1 | refine IsS117.far ?_ NB0_376.out _ | refine IsS117.far ?_ NB0_390.out _) | exact HI0.out)) (Kd.S_below HO_9.out lt_) (by decide)) hk (fun _ h => h.2)) (fun _ h => h.1))
   replace HO_10 := mk_ (Kd.R_mono (Kd.R_keep (IsS117.apart (show IsS117 w0 _ g s0_0 t402 from by repeat (first | (with_reducible first | exact HI0.out | apply IsS117.alloc | apply IsS117.drewN | apply IsS117.drew | apply IsS117.set_1 | refine IsS117.far ?_ NB0_376.out _ | refine IsS117.far ?_ NB0_390.out _) | exact HI0.out)) (Kd.R_below HO_10.out lt_) (by decide)) hk (fun _ h => h.2)) (fun _ h => h.1))
   replace HO_391001 := mk_ (Kd.R_mono (Kd.R_keep (IsS117.apart (show IsS117 w0 _ g s0_0 t402 from by repeat (first | (with_reducible first | exact HI0.out | apply IsS117.alloc | apply IsS117.drewN | apply IsS117.drew | apply IsS117.set_1 | refine IsS117.far ?_ NB0_376.out _ | refine IsS117.far ?_ NB0_390.out _) | exact HI0.out)) (Kd.R_below HO_391001.out lt_) (by decide)) hk (fun _ h => h.2)) (fun _ h => h.1))
   replace BK376 := mk_ (KeepBut.blk hk (g' := gb376) (o := .cells #[.int .i64 0, .slice none 0 0] 51 (0, 0)) (bk_ BK376.out) NB376_0.out (by simp))
   replace BK390 := mk_ (KeepBut.blk hk (g' := gb390) (o := .cells #[.int .i64 x391000_4, u391001] 51 (0, 0)) (bk_ BK390.out) NB390_0.out (by simp))
   replace HK := mk_ (KeepBut.trans (by repeat (first | (with_reducible first | exact HK.out | apply KeepBut.set_ | apply keep_drewN | apply keep_drew | apply keep_alloc | refine keep_far ?_ GW376.out _ | refine keep_far ?_ GW390.out _) | exact HK.out)) hk (.inl rfl))
   replace HB := mk_ (hb)
   replace HI0 := mk_ (hi)
   (try clear hb)
   (try clear hb2)
   (try clear hk)
   (try clear hi)
   refine hK.out _ _ ⟨(blk_cell BK390.out 0).trans rfl, (blk_cell BK390.out 1).trans rfl⟩ (fun hHeld => ?_)
   clear hK K
   refine nor_ (some 64) ?_
   refine pus_ 4 (some 65) (ao_ HT_) ?_
   refine ons_ 5 (some 66) (oo_ HT_) (fun K hK => ?_)
   refine value_ (w1 := ?_) (v := ?_) (by rfl) rfl ?_ ?_
   rotate_left 2
   ·go_simp
    constructor
    ·rfl
    rfl
   refine hK.out _ _ ⟨(blk_cell (blk_alloc BK390.out _) 0).trans rfl, (blk_cell (blk_alloc BK390.out _) 1).trans rfl⟩ (fun hHeld => ?_)
   clear hK K
   refine nor_ (some 66) ?_
   refine ons_ 6 (some 67) (oo_ HT_) (fun K hK => ?_)
   refine Kd.R_append_step k93 w.heap.size (by rfl) (.tmp 62) (.tmp 66) 49 93 (.agg #[(.int .i64 0), (.int .i64 0), (.int .i64 0)]) 24 rfl Try.underlying49 info93 rfl (by decide) (by omega) u391001 x391001_4 (⟨t405, (-1), (-2)⟩ : S93) [.int .i64 t405, .int .i64 (-1), .int .i64 (-2)] (fun _ => True) (fun _ => False) rfl rfl ?aP (fun _ hk => hk.elim) ?aF ?aO (Below.refl _ _) ?aS ?aL ?_
   (case aP => exact k93_mkM _ _ _ (⟨t405, (-1), (-2)⟩ : S93))
   (case aF => exact (fun _ _ => trivial))
   (case aO => exact (Kd.R_below HO_391001.out lt_))
   (case aS => exact (keep_size (w := w) (g := g) (row := none) (by repeat (first | (with_reducible first | exact HK.out | apply KeepBut.set_ | apply keep_drewN | apply keep_drew | apply keep_alloc | refine keep_far ?_ GW376.out _ | refine keep_far ?_ GW390.out _) | exact HK.out))))
   (case aL => have := LMc44.out; omega)
   intro v408 w49 ho hb hg hat
   rw [← Ny407.out] at ho
   replace HO_9 := mk_ (Kd.S_over' (Kd.S_below HO_9.out lt_) (Kd.R_typed (Kd.R_below HO_391001.out lt_)) (by decide) hg)
   replace HO_10 := mk_ (Kd.R_over' (Kd.R_below HO_10.out lt_) (Kd.R_typed (Kd.R_below HO_391001.out lt_)) (by decide) hg)
   replace BK376 := mk_ (blk_grown (g := gb376) (o := .cells #[.int .i64 0, .slice none 0 0] 51 (0, 0)) (bk_ BK376.out) hg (Kd.R_ne HO_391001.out BK376.out (by decide)))
   replace BK390 := mk_ (blk_grown (g := gb390) (o := .cells #[.int .i64 x391000_4, u391001] 51 (0, 0)) (bk_ BK390.out) hg (Kd.R_ne HO_391001.out BK390.out (by decide)))
   replace HB := mk_ (below_weaken (by repeat (first | (with_reducible first | exact HB.out | apply below_alloc | apply pw_below_drewN | apply below_drew1 | refine below_set ?_ (IsS117.ge HI0.out) | refine below_set ?_ GE376.out | refine below_set ?_ GE390.out) | exact HB.out)) HL.out hb)
   replace HI0 := mk_ (IsS117.grown (by repeat (first | (with_reducible first | exact HI0.out | apply IsS117.alloc | apply IsS117.drewN | apply IsS117.drew | apply IsS117.set_1 | refine IsS117.far ?_ NB0_376.out _ | refine IsS117.far ?_ NB0_390.out _) | exact HI0.out)) hg (IsS117.own_ne HI0.out HO_391001.out (by decide)))
   replace HK := mk_ (KeepBut.trans (by repeat (first | (with_reducible first | exact HK.out | apply KeepBut.set_ | apply keep_drewN | apply keep_drew | apply keep_alloc | refine keep_far ?_ GW376.out _ | refine keep_far ?_ GW390.out _) | exact HK.out)) (KeepBut.of_grown hg g) (Kd.R_base2 HO_391001.out))
   have HO409 := mk_ (ho)
   (try clear HO_391001)
   clear ho hb hg hat
   obtain ⟨Ao50, co50, eo50⟩ := Kd.R_slice HO409.out
   (first | subst eo50 | (injection eo50 with f1_ f2_ f3_; have f4_ := f1_.symm; have f5_ := f3_.symm; clear f1_ f2_ f3_; subst f4_; subst f5_))
   refine hK.out _ _ ⟨(blk_cell BK390.out 0).trans rfl, (blk_cell BK390.out 1).trans rfl⟩ (fun hHeld => ?_)
   clear hK K
   refine nor_ (some 67) ?_
   refine pus_ 7 (some 68) (ao_ HT_) ?_
   refine last_ (i := 8) (N := none) #[true, true, true, true, true, true, true, true, true] rfl rfl (one_of HT_.out (by kernel_rfl)) (by decide) (fun K hK => ?_)
   have hs51 : w49.cell? ⟨gb390, 1, none⟩ = some (u391001) := (blk_cell BK390.out 1).trans rfl
   have hfs51 := blk_frozen BK390.out 1
   have hns51_0 := NB376_390.out
   have hms51_0 := NB390_376.out
   refine skip_ (w1 := ?_) (by rfl) rfl ?_ ?_
   rotate_left
   ·go_simp
    rfl
   refine hK.out _ _ ?_
   clear hK K
   refine done_ (done_of HT_.out (by kernel_rfl)) ?_
   try go_wp2
   have n0_ : Aside0 (Kd.S k38 38 (w49.setCell ⟨gb390, 1, none⟩ (.slice Ao50 y407.length co50)) w.heap.size (fun k_ => some k_ ≠ (u10 : Value).ownBlock) (.slice Ao8 t378.length co8) t378) := ⟨by (with_reducible repeat (first | apply Kd.S_alloc | apply Kd.S_drewN | apply Kd.S_drew)); exact Kd.S_mono (Kd.S_far (p := ⟨gb390, 1, none⟩) (Kd.S_types HO_9.out BK390.out (by decide)) (fun _ hk => hk.2) (.slice Ao50 y407.length co50)) (fun _ hk => hk.1)⟩
   have n1_ : Aside0 (Kd.R k47 47 (w49.setCell ⟨gb390, 1, none⟩ (.slice Ao50 y407.length co50)) w.heap.size (fun _ => True) u10 x10_4) := ⟨by (with_reducible repeat (first | apply Kd.R_alloc | apply Kd.R_drewN | apply Kd.R_drew)); exact Kd.R_mono (Kd.R_far (p := ⟨gb390, 1, none⟩) (Kd.R_types HO_10.out BK390.out (by decide)) (fun _ hk => hk.2) (.slice Ao50 y407.length co50)) (fun _ hk => trivial)⟩
   have n2_ : Aside0 (Kd.R k93 93 (w49.setCell ⟨gb390, 1, none⟩ (.slice Ao50 y407.length co50)) w.heap.size (fun _ => True) (.slice Ao50 y407.length co50) y407) := ⟨by (with_reducible repeat (first | apply Kd.R_alloc | apply Kd.R_drewN | apply Kd.R_drew)); exact Kd.R_mono (Kd.R_far (p := ⟨gb390, 1, none⟩) (Kd.R_types HO409.out BK390.out (by decide)) (fun _ hk => hk.2) (.slice Ao50 y407.length co50)) (fun _ hk => trivial)⟩
   have n3_ : Aside0 ((w49.setCell ⟨gb390, 1, none⟩ (.slice Ao50 y407.length co50)).heap[gb376]? = some (.cells #[.int .i64 0, .slice none 0 0] 51 (0, 0))) := ⟨by refine bs_ ?_; refine blk_far ?_ NB376_390.out _; refine bs_ ?_; exact BK376.out⟩
   have n4_ : Aside0 ((w49.setCell ⟨gb390, 1, none⟩ (.slice Ao50 y407.length co50)).heap[gb390]? = some (.cells #[.int .i64 x391000_4, .slice Ao50 y407.length co50] 51 (0, 0))) := ⟨by refine bs_ ?_; refine blk_put (cs := #[.int .i64 x391000_4, u391001]) ?_ 1 _ rfl; refine bs_ ?_; exact BK390.out⟩
   have n5_ : Aside0 (IsS117 w0 (w49.setCell ⟨gb390, 1, none⟩ (.slice Ao50 y407.length co50)) g s0_0 t406) := ⟨by repeat (first | (with_reducible first | exact HI0.out | apply IsS117.alloc | apply IsS117.drewN | apply IsS117.drew | apply IsS117.set_1 | refine IsS117.far ?_ NB0_376.out _ | refine IsS117.far ?_ NB0_390.out _) | exact HI0.out)⟩
   have n6_ : Aside0 (KeepBut w (w49.setCell ⟨gb390, 1, none⟩ (.slice Ao50 y407.length co50)) g none) := ⟨by repeat (first | (with_reducible first | exact HK.out | apply KeepBut.set_ | apply keep_drewN | apply keep_drew | apply keep_alloc | refine keep_far ?_ GW376.out _ | refine keep_far ?_ GW390.out _) | exact HK.out)⟩
   have n7_ : Aside0 (Below w0.heap.size w0 (w49.setCell ⟨gb390, 1, none⟩ (.slice Ao50 y407.length co50))) := ⟨by repeat (first | (with_reducible first | exact HB.out | apply below_alloc | apply pw_below_drewN | apply below_drew1 | refine below_set ?_ (IsS117.ge HI0.out) | refine below_set ?_ GE376.out | refine below_set ?_ GE390.out) | exact HB.out)⟩
   (try clear HO_9)
   (try clear HO_10)
   (try clear HO409)
   (try clear BK376)
   (try clear BK390)
   (try clear HI0)
   (try clear HK)
   (try clear HB)
   generalize (w49.setCell ⟨gb390, 1, none⟩ (.slice Ao50 y407.length co50)) = w52 at n0_ n1_ n2_ n3_ n4_ n5_ n6_ n7_ ⊢
   have HO_9 := n0_
   have HO_10 := n1_
   have HO409 := n2_
   have BK376 := n3_
   have BK390 := n4_
   have HI0 := n5_
   have HK := n6_
   have HB := n7_
   clear n0_ n1_ n2_ n3_ n4_ n5_ n6_ n7_
   replace HO_9 := mk_ (Kd.S_drew HO_9.out)
   replace HO_10 := mk_ (Kd.R_drew HO_10.out)
   replace HO409 := mk_ (Kd.R_drew HO409.out)
   replace BK376 := mk_ (blk_drew BK376.out)
   replace BK390 := mk_ (blk_drew BK390.out)
   replace HI0 := mk_ (IsS117.drew HI0.out)
   replace HK := mk_ (keep_drew HK.out)
   replace HB := mk_ (below_drew1 HB.out)
   refine start_ (n := 8) (S := fun w' => w'.cell? ⟨gb390, 0, none⟩ = some (.int .i64 x391000_4) ∧ w'.cell? ⟨gb390, 1, none⟩ = some (.slice Ao50 y407.length co50)) (ds := []) #[false, false, false, false, false, false, false, false] (by kernel_rfl) rfl rfl ⟨(blk_cell BK390.out 0).trans rfl, (blk_cell BK390.out 1).trans rfl⟩ (fun hHeld => ?_); refine with_tabW spec_l20Proof.tab17 spec_l20Proof.bits17 (fun HT_ HW_ => ?_)
   generalize w52.drew = w53 at HO_9 HO_10 HO409 BK376 HI0 HK HB hHeld ⊢
   refine pus_ 0 (some 86) (ao_ HT_) ?_
   refine pus_ 1 (some 87) (ao_ HT_) ?_
   refine pus_ 2 (some 88) (ao_ HT_) ?_
   refine pus_ 4 (some 4) (ao_ HT_) ?_
   refine pus_ 5 (some 5) (ao_ HT_) ?_
   refine pus_ 6 (some 6) (ao_ HT_) ?_
   refine tas_ 3 (some 89) (to_ HT_ HW_) hHeld ?_
   refine ons_ 7 none (oo_ HT_) (fun K hK => ?_)
   have hs54 : w53.cell? ⟨gb376, 0, none⟩ = some (.int .i64 0) := (blk_cell BK376.out 0).trans rfl
   have hfs54 := blk_frozen BK376.out 0
   have hns54_1 := NB390_376.out
   have hms54_1 := NB376_390.out
   have hs55 : w53.cell? ⟨gb376, 1, none⟩ = some (.slice none 0 0) := (blk_cell BK376.out 1).trans rfl
   have hfs55 := blk_frozen BK376.out 1
   have hns55_1 := NB390_376.out
   have hms55_1 := NB376_390.out
   refine skip_ (w1 := ?_) (by rfl) rfl ?_ ?_
   rotate_left
   ·go_simp
    rfl
   refine hK.out _ _ ⟨((cell_far (p := ⟨gb376, _, none⟩) NB390_376.out _).trans (((cell_far (p := ⟨gb376, _, none⟩) NB390_376.out _).trans (hHeld.1)))), ((cell_far (p := ⟨gb376, _, none⟩) NB390_376.out _).trans (((cell_far (p := ⟨gb376, _, none⟩) NB390_376.out _).trans (hHeld.2))))⟩ (fun hHeld => ?_)
   clear hK K
   refine done_ (done_of HT_.out (by kernel_rfl)) ?_
   try go_wp2
   refine bodyPost_ret (results_list (rs := [.tmp 4, .tmp 5, .tmp 6, .cell 7 51]) rfl (by simp) (.tmp (.tmp (.tmp (.cell gb376 51 #[.int .i64 x391000_4, .slice Ao50 y407.length co50] (0, 0) _ rfl (by refine bs_ ?_; refine blk_put (cs := #[.int .i64 x391000_4, .slice none 0 0]) ?_ 1 _ rfl; refine bs_ ?_; refine blk_put (cs := #[.int .i64 0, .slice none 0 0]) ?_ 0 _ rfl; refine bs_ ?_; exact BK376.out) Try.underlying51 rfl (by kernel_rfl) .nil))))) rfl ?_
   exact ⟨_, _, _, er_, by (with_reducible repeat (first | apply Kd.S_alloc | apply Kd.S_drewN | apply Kd.S_drew)); exact Kd.S_mono (Kd.S_far (p := ⟨gb376, 1, none⟩) (Kd.S_far (p := ⟨gb376, 0, none⟩) (Kd.S_types HO_9.out BK376.out (by decide)) (fun _ hk => hk.2) (.int .i64 x391000_4)) (fun _ hk => hk.2) (.slice Ao50 y407.length co50)) (fun _ hk => hk.1), by (with_reducible repeat (first | apply Kd.R_alloc | apply Kd.R_drewN | apply Kd.R_drew)); exact Kd.R_mono (Kd.R_far (p := ⟨gb376, 1, none⟩) (Kd.R_far (p := ⟨gb376, 0, none⟩) (Kd.R_types HO_10.out BK376.out (by decide)) (fun _ hk => hk.2) (.int .i64 x391000_4)) (fun _ hk => hk.2) (.slice Ao50 y407.length co50)) (fun _ hk => trivial), by (with_reducible repeat (first | apply Kd.R_alloc | apply Kd.R_drewN | apply Kd.R_drew)); exact Kd.R_mono (Kd.R_far (p := ⟨gb376, 1, none⟩) (Kd.R_far (p := ⟨gb376, 0, none⟩) (Kd.R_types HO409.out BK376.out (by decide)) (fun _ hk => hk.2) (.int .i64 x391000_4)) (fun _ hk => hk.2) (.slice Ao50 y407.length co50)) (fun _ hk => trivial), by repeat (first | (with_reducible first | exact HI0.out | apply IsS117.alloc | apply IsS117.drewN | apply IsS117.drew | apply IsS117.set_1 | refine IsS117.far ?_ NB0_376.out _ | refine IsS117.far ?_ NB0_390.out _) | exact HI0.out), by repeat (first | (with_reducible first | exact HB.out | apply below_alloc | apply pw_below_drewN | apply below_drew1 | refine below_set ?_ (IsS117.ge HI0.out) | refine below_set ?_ GE376.out | refine below_set ?_ GE390.out) | exact HB.out), by repeat (first | (with_reducible first | exact HK.out | apply KeepBut.set_ | apply keep_drewN | apply keep_drew | apply keep_alloc | refine keep_far ?_ GW376.out _ | refine keep_far ?_ GW390.out _) | exact HK.out)⟩
  rw [if_neg c42] at H
  have c42b0 : (t401 == 1) = false := beq_eq_false_iff_ne.mpr c42
  have c42b1 : (t401 != 1) = true := bne_iff_ne.mpr c42
  by_cases c56 : t401 = 2
  rotate_left
  ·rw [if_neg c56] at H
   have c56b0 : (t401 == 2) = false := beq_eq_false_iff_ne.mpr c56
   have c56b1 : (t401 != 2) = true := bne_iff_ne.mpr c56
   by_cases c86 : (x391001_4.length : Int) > 0
   rotate_left
   ·rw [if_neg c86] at H
    have c86b0 : decide (0 < (x391001_4.length : Int)) = false := decide_eq_false c86
    have c86b1 : decide (0 < x391001_4.length) = false := decide_eq_false (by omega)
    clear c86
    simp only [Option.some.injEq, Prod.mk.injEq] at H
    obtain ⟨rfl, rfl, rfl, rfl, rfl, rfl⟩ := H
    try go_wp2_with (first | ((with_reducible refine gate_callee (f := 88) rfl ?_); refine goesL_ (some 39) rfl rfl Try.func88 (by kernel_rfl) rfl #[.pointer (some ⟨g, 0, none⟩), .int .i64 a1] rfl gl_ ?_; (with_reducible refine (spec_l20Rd_odd.calls kj4 g s0_0 t384 a1 true t400 w0 _ ?side1 ?side2 A26.out).mono ?_); (case side1 => repeat (first | (with_reducible first | exact HI0.out | apply IsS117.alloc | apply IsS117.drewN | apply IsS117.drew | apply IsS117.set_1 | refine IsS117.far ?_ NB0_376.out _ | refine IsS117.far ?_ NB0_390.out _) | exact HI0.out)); (case side2 => repeat (first | (with_reducible first | exact HB.out | apply below_alloc | apply pw_below_drewN | apply below_drew1 | refine below_set ?_ (IsS117.ge HI0.out) | refine below_set ?_ GE376.out | refine below_set ?_ GE390.out) | exact HB.out)); rintro e w103 ⟨rfl, hi, hb, hk⟩; refine ⟨_, rfl, ?_⟩; replace HO_9 := mk_ (Kd.S_mono (Kd.S_keep (IsS117.apartS (show IsS117 w0 _ g s0_0 t384 from by repeat (first | (with_reducible first | exact HI0.out | apply IsS117.alloc | apply IsS117.drewN | apply IsS117.drew | apply IsS117.set_1 | refine IsS117.far ?_ NB0_376.out _ | refine IsS117.far ?_ NB0_390.out _) | exact HI0.out)) (Kd.S_below HO_9.out lt_) (by decide)) hk (fun _ h => h.2)) (fun _ h => h.1)); replace HO_10 := mk_ (Kd.R_mono (Kd.R_keep (IsS117.apart (show IsS117 w0 _ g s0_0 t384 from by repeat (first | (with_reducible first | exact HI0.out | apply IsS117.alloc | apply IsS117.drewN | apply IsS117.drew | apply IsS117.set_1 | refine IsS117.far ?_ NB0_376.out _ | refine IsS117.far ?_ NB0_390.out _) | exact HI0.out)) (Kd.R_below HO_10.out lt_) (by decide)) hk (fun _ h => h.2)) (fun _ h => h.1)); replace HO_391001 := mk_ (Kd.R_mono (Kd.R_keep (IsS117.apart (show IsS117 w0 _ g s0_0 t384 from by repeat (first | (with_reducible first | exact HI0.out | apply IsS117.alloc | apply IsS117.drewN | apply IsS117.drew | apply IsS117.set_1 | refine IsS117.far ?_ NB0_376.out _ | refine IsS117.far ?_ NB0_390.out _) | exact HI0.out)) (Kd.R_below HO_391001.out lt_) (by decide)) hk (fun _ h => h.2)) (fun _ h => h.1)); replace BK376 := mk_ (KeepBut.blk hk (g' := gb376) (o := .cells #[.int .i64 0, .slice none 0 0] 51 (0, 0)) (bk_ BK376.out) NB376_0.out (by simp)); replace BK390 := mk_ (KeepBut.blk hk (g' := gb390) (o := .cells #[.int .i64 x391000_4, u391001] 51 (0, 0)) (bk_ BK390.out) NB390_0.out (by simp)); replace HK := mk_ (KeepBut.trans (by repeat (first | (with_reducible first | exact HK.out | apply KeepBut.set_ | apply keep_drewN | apply keep_drew | apply keep_alloc | refine keep_far ?_ GW376.out _ | refine keep_far ?_ GW390.out _) | exact HK.out)) hk (.inl rfl)); replace HB := mk_ (hb); replace HI0 := mk_ (hi); (try clear hb)) | ((with_reducible refine gate_callee (f := 60) rfl ?_); refine goesL_ (some 41) rfl rfl Try.func60 (by kernel_rfl) rfl #[.pointer (some ⟨g, 0, none⟩), .int .i64 4] rfl gl_ ?_; (with_reducible refine (spec_l20Rd_pick.calls kj4 g s0_0 t400 4 t401 t402 w0 _ ?side1 ?side2 A28.out).mono ?_); (case side1 => repeat (first | (with_reducible first | exact HI0.out | apply IsS117.alloc | apply IsS117.drewN | apply IsS117.drew | apply IsS117.set_1 | refine IsS117.far ?_ NB0_376.out _ | refine IsS117.far ?_ NB0_390.out _) | exact HI0.out)); (case side2 => repeat (first | (with_reducible first | exact HB.out | apply below_alloc | apply pw_below_drewN | apply below_drew1 | refine below_set ?_ (IsS117.ge HI0.out) | refine below_set ?_ GE376.out | refine below_set ?_ GE390.out) | exact HB.out)); rintro e w104 ⟨rfl, hi, hb, hk⟩; refine ⟨_, rfl, ?_⟩; replace HO_9 := mk_ (Kd.S_mono (Kd.S_keep (IsS117.apartS (show IsS117 w0 _ g s0_0 t400 from by repeat (first | (with_reducible first | exact HI0.out | apply IsS117.alloc | apply IsS117.drewN | apply IsS117.drew | apply IsS117.set_1 | refine IsS117.far ?_ NB0_376.out _ | refine IsS117.far ?_ NB0_390.out _) | exact HI0.out)) (Kd.S_below HO_9.out lt_) (by decide)) hk (fun _ h => h.2)) (fun _ h => h.1)); replace HO_10 := mk_ (Kd.R_mono (Kd.R_keep (IsS117.apart (show IsS117 w0 _ g s0_0 t400 from by repeat (first | (with_reducible first | exact HI0.out | apply IsS117.alloc | apply IsS117.drewN | apply IsS117.drew | apply IsS117.set_1 | refine IsS117.far ?_ NB0_376.out _ | refine IsS117.far ?_ NB0_390.out _) | exact HI0.out)) (Kd.R_below HO_10.out lt_) (by decide)) hk (fun _ h => h.2)) (fun _ h => h.1)); replace HO_391001 := mk_ (Kd.R_mono (Kd.R_keep (IsS117.apart (show IsS117 w0 _ g s0_0 t400 from by repeat (first | (with_reducible first | exact HI0.out | apply IsS117.alloc | apply IsS117.drewN | apply IsS117.drew | apply IsS117.set_1 | refine IsS117.far ?_ NB0_376.out _ | refine IsS117.far ?_ NB0_390.out _) | exact HI0.out)) (Kd.R_below HO_391001.out lt_) (by decide)) hk (fun _ h => h.2)) (fun _ h => h.1)); replace BK376 := mk_ (KeepBut.blk hk (g' := gb376) (o := .cells #[.int .i64 0, .slice none 0 0] 51 (0, 0)) (bk_ BK376.out) NB376_0.out (by simp)); replace BK390 := mk_ (KeepBut.blk hk (g' := gb390) (o := .cells #[.int .i64 x391000_4, u391001] 51 (0, 0)) (bk_ BK390.out) NB390_0.out (by simp)); replace HK := mk_ (KeepBut.trans (by repeat (first | (with_reducible first | exact HK.out | apply KeepBut.set_ | apply keep_drewN | apply keep_drew | apply keep_alloc | refine keep_far ?_ GW376.out _ | refine keep_far ?_ GW390.out _) | exact HK.out)) hk (.inl rfl)); replace HB := mk_ (hb); replace HI0 := mk_ (hi); (try clear hb); have hnb105 := NB390_376.out; have hnc105 := NB376_390.out; have hnb106 := NB390_0.out; have hnc106 := NB0_390.out; have hcz107_0 : w104.cell? ⟨gb390, 0, none⟩ = some (.int .i64 x391000_4) := (blk_cell BK390.out 0).trans rfl; have hcz107_1 : w104.cell? ⟨gb390, 1, none⟩ = some (u391001) := (blk_cell BK390.out 1).trans rfl; have hfz107_0 := blk_frozen BK390.out 0; have hfz107_1 := blk_frozen BK390.out 1; obtain ⟨Ao108, co108, eo108⟩ := Kd.R_slice HO_391001.out; subst eo108))
    replace HO_9 := mk_ (Kd.S_drew HO_9.out)
    replace HO_10 := mk_ (Kd.R_drew HO_10.out)
    replace HO_391001 := mk_ (Kd.R_drew HO_391001.out)
    replace BK376 := mk_ (blk_drew BK376.out)
    replace BK390 := mk_ (blk_drew BK390.out)
    replace HI0 := mk_ (IsS117.drew HI0.out)
    replace HK := mk_ (keep_drew HK.out)
    replace HB := mk_ (below_drew1 HB.out)
    refine start_ (n := 8) (S := fun w' => w'.cell? ⟨gb390, 0, none⟩ = some (.int .i64 x391000_4) ∧ w'.cell? ⟨gb390, 1, none⟩ = some (.slice Ao108 x391001_4.length co108)) (ds := []) #[false, false, false, false, false, false, false, false] (by kernel_rfl) rfl rfl ⟨(blk_cell BK390.out 0).trans rfl, (blk_cell BK390.out 1).trans rfl⟩ (fun hHeld => ?_); refine with_tabW spec_l20Proof.tab17 spec_l20Proof.bits17 (fun HT_ HW_ => ?_)
    generalize w104.drew = w109 at HO_9 HO_10 HO_391001 BK376 HI0 HK HB hHeld ⊢
    refine pus_ 0 (some 86) (ao_ HT_) ?_
    refine pus_ 1 (some 87) (ao_ HT_) ?_
    refine pus_ 2 (some 88) (ao_ HT_) ?_
    refine pus_ 4 (some 4) (ao_ HT_) ?_
    refine pus_ 5 (some 5) (ao_ HT_) ?_
    refine pus_ 6 (some 6) (ao_ HT_) ?_
    refine tas_ 3 (some 89) (to_ HT_ HW_) hHeld ?_
    refine ons_ 7 none (oo_ HT_) (fun K hK => ?_)
    have hs110 : w109.cell? ⟨gb376, 0, none⟩ = some (.int .i64 0) := (blk_cell BK376.out 0).trans rfl
    have hfs110 := blk_frozen BK376.out 0
    have hns110_1 := NB390_376.out
    have hms110_1 := NB376_390.out
    have hs111 : w109.cell? ⟨gb376, 1, none⟩ = some (.slice none 0 0) := (blk_cell BK376.out 1).trans rfl
    have hfs111 := blk_frozen BK376.out 1
    have hns111_1 := NB390_376.out
    have hms111_1 := NB376_390.out
    refine skip_ (w1 := ?_) (by rfl) rfl ?_ ?_
    rotate_left
    ·go_simp
     rfl
    refine hK.out _ _ ⟨((cell_far (p := ⟨gb376, _, none⟩) NB390_376.out _).trans (((cell_far (p := ⟨gb376, _, none⟩) NB390_376.out _).trans (hHeld.1)))), ((cell_far (p := ⟨gb376, _, none⟩) NB390_376.out _).trans (((cell_far (p := ⟨gb376, _, none⟩) NB390_376.out _).trans (hHeld.2))))⟩ (fun hHeld => ?_)
    clear hK K
    refine done_ (done_of HT_.out (by kernel_rfl)) ?_
    try go_wp2
    refine bodyPost_ret (results_list (rs := [.tmp 4, .tmp 5, .tmp 6, .cell 7 51]) rfl (by simp) (.tmp (.tmp (.tmp (.cell gb376 51 #[.int .i64 x391000_4, .slice Ao108 x391001_4.length co108] (0, 0) _ rfl (by refine bs_ ?_; refine blk_put (cs := #[.int .i64 x391000_4, .slice none 0 0]) ?_ 1 _ rfl; refine bs_ ?_; refine blk_put (cs := #[.int .i64 0, .slice none 0 0]) ?_ 0 _ rfl; refine bs_ ?_; exact BK376.out) Try.underlying51 rfl (by kernel_rfl) .nil))))) rfl ?_
    exact ⟨_, _, _, er_, by (with_reducible repeat (first | apply Kd.S_alloc | apply Kd.S_drewN | apply Kd.S_drew)); exact Kd.S_mono (Kd.S_far (p := ⟨gb376, 1, none⟩) (Kd.S_far (p := ⟨gb376, 0, none⟩) (Kd.S_types HO_9.out BK376.out (by decide)) (fun _ hk => hk.2) (.int .i64 x391000_4)) (fun _ hk => hk.2) (.slice Ao108 x391001_4.length co108)) (fun _ hk => hk.1), by (with_reducible repeat (first | apply Kd.R_alloc | apply Kd.R_drewN | apply Kd.R_drew)); exact Kd.R_mono (Kd.R_far (p := ⟨gb376, 1, none⟩) (Kd.R_far (p := ⟨gb376, 0, none⟩) (Kd.R_types HO_10.out BK376.out (by decide)) (fun _ hk => hk.2) (.int .i64 x391000_4)) (fun _ hk => hk.2) (.slice Ao108 x391001_4.length co108)) (fun _ hk => trivial), by (with_reducible repeat (first | apply Kd.R_alloc | apply Kd.R_drewN | apply Kd.R_drew)); exact Kd.R_mono (Kd.R_far (p := ⟨gb376, 1, none⟩) (Kd.R_far (p := ⟨gb376, 0, none⟩) (Kd.R_types HO_391001.out BK376.out (by decide)) (fun _ hk => hk.2) (.int .i64 x391000_4)) (fun _ hk => hk.2) (.slice Ao108 x391001_4.length co108)) (fun _ hk => trivial), by repeat (first | (with_reducible first | exact HI0.out | apply IsS117.alloc | apply IsS117.drewN | apply IsS117.drew | apply IsS117.set_1 | refine IsS117.far ?_ NB0_376.out _ | refine IsS117.far ?_ NB0_390.out _) | exact HI0.out), by repeat (first | (with_reducible first | exact HB.out | apply below_alloc | apply pw_below_drewN | apply below_drew1 | refine below_set ?_ (IsS117.ge HI0.out) | refine below_set ?_ GE376.out | refine below_set ?_ GE390.out) | exact HB.out), by repeat (first | (with_reducible first | exact HK.out | apply KeepBut.set_ | apply keep_drewN | apply keep_drew | apply keep_alloc | refine keep_far ?_ GW376.out _ | refine keep_far ?_ GW390.out _) | exact HK.out)⟩
   rw [if_pos c86] at H
   have c86b0 : decide (0 < (x391001_4.length : Int)) = true := decide_eq_true c86
   have c86b1 : decide (0 < x391001_4.length) = true := decide_eq_true (by omega)
   clear c86
   replace H := Option.bind_eq_some_iff.mp H
   obtain ⟨⟨t415, t416⟩, A870, H⟩ := H
   try dsimp only at H
   have A87 := mk_ A870
   clear A870
   by_cases c88 : 0 < (x391001_4.length : Int)
   rotate_left
   ·rw [if_neg c88] at H
    exact absurd H (by simp)
   rw [if_pos c88] at H
   have c88b0 : decide (0 < (x391001_4.length : Int)) = true := decide_eq_true c88
   have c88b1 : decide (0 < x391001_4.length) = true := decide_eq_true (by omega)
   clear c88
   obtain ⟨y417, hy417⟩ : ∃ y_ : List (S93), y_ = (x391001_4.set (0 : Int).toNat (⟨(rd_T93 x391001_4 0).f0, wrap64 (t415 - 3), (rd_T93 x391001_4 0).f2⟩ : S93)) := ⟨_, rfl⟩
   first | (replace H := bn_ hy417 H; try dsimp only at H) | rw [← hy417] at H
   have Ny417 := mk_ hy417
   clear hy417
   simp only [Option.some.injEq, Prod.mk.injEq] at H
   obtain ⟨rfl, rfl, rfl, rfl, rfl, rfl⟩ := H
   try go_wp2_with (first | ((with_reducible refine gate_callee (f := 88) rfl ?_); refine goesL_ (some 39) rfl rfl Try.func88 (by kernel_rfl) rfl #[.pointer (some ⟨g, 0, none⟩), .int .i64 a1] rfl gl_ ?_; (with_reducible refine (spec_l20Rd_odd.calls kj4 g s0_0 t384 a1 true t400 w0 _ ?side1 ?side2 A26.out).mono ?_); (case side1 => repeat (first | (with_reducible first | exact HI0.out | apply IsS117.alloc | apply IsS117.drewN | apply IsS117.drew | apply IsS117.set_1 | refine IsS117.far ?_ NB0_376.out _ | refine IsS117.far ?_ NB0_390.out _) | exact HI0.out)); (case side2 => repeat (first | (with_reducible first | exact HB.out | apply below_alloc | apply pw_below_drewN | apply below_drew1 | refine below_set ?_ (IsS117.ge HI0.out) | refine below_set ?_ GE376.out | refine below_set ?_ GE390.out) | exact HB.out)); rintro e w90 ⟨rfl, hi, hb, hk⟩; refine ⟨_, rfl, ?_⟩; replace HO_9 := mk_ (Kd.S_mono (Kd.S_keep (IsS117.apartS (show IsS117 w0 _ g s0_0 t384 from by repeat (first | (with_reducible first | exact HI0.out | apply IsS117.alloc | apply IsS117.drewN | apply IsS117.drew | apply IsS117.set_1 | refine IsS117.far ?_ NB0_376.out _ | refine IsS117.far ?_ NB0_390.out _) | exact HI0.out)) (Kd.S_below HO_9.out lt_) (by decide)) hk (fun _ h => h.2)) (fun _ h => h.1)); replace HO_10 := mk_ (Kd.R_mono (Kd.R_keep (IsS117.apart (show IsS117 w0 _ g s0_0 t384 from by repeat (first | (with_reducible first | exact HI0.out | apply IsS117.alloc | apply IsS117.drewN | apply IsS117.drew | apply IsS117.set_1 | refine IsS117.far ?_ NB0_376.out _ | refine IsS117.far ?_ NB0_390.out _) | exact HI0.out)) (Kd.R_below HO_10.out lt_) (by decide)) hk (fun _ h => h.2)) (fun _ h => h.1)); replace HO_391001 := mk_ (Kd.R_mono (Kd.R_keep (IsS117.apart (show IsS117 w0 _ g s0_0 t384 from by repeat (first | (with_reducible first | exact HI0.out | apply IsS117.alloc | apply IsS117.drewN | apply IsS117.drew | apply IsS117.set_1 | refine IsS117.far ?_ NB0_376.out _ | refine IsS117.far ?_ NB0_390.out _) | exact HI0.out)) (Kd.R_below HO_391001.out lt_) (by decide)) hk (fun _ h => h.2)) (fun _ h => h.1)); replace BK376 := mk_ (KeepBut.blk hk (g' := gb376) (o := .cells #[.int .i64 0, .slice none 0 0] 51 (0, 0)) (bk_ BK376.out) NB376_0.out (by simp)); replace BK390 := mk_ (KeepBut.blk hk (g' := gb390) (o := .cells #[.int .i64 x391000_4, u391001] 51 (0, 0)) (bk_ BK390.out) NB390_0.out (by simp)); replace HK := mk_ (KeepBut.trans (by repeat (first | (with_reducible first | exact HK.out | apply KeepBut.set_ | apply keep_drewN | apply keep_drew | apply keep_alloc | refine keep_far ?_ GW376.out _ | refine keep_far ?_ GW390.out _) | exact HK.out)) hk (.inl rfl)); replace HB := mk_ (hb); replace HI0 := mk_ (hi); (try clear hb)) | ((with_reducible refine gate_callee (f := 60) rfl ?_); refine goesL_ (some 41) rfl rfl Try.func60 (by kernel_rfl) rfl #[.pointer (some ⟨g, 0, none⟩), .int .i64 4] rfl gl_ ?_; (with_reducible refine (spec_l20Rd_pick.calls kj4 g s0_0 t400 4 t401 t402 w0 _ ?side1 ?side2 A28.out).mono ?_); (case side1 => repeat (first | (with_reducible first | exact HI0.out | apply IsS117.alloc | apply IsS117.drewN | apply IsS117.drew | apply IsS117.set_1 | refine IsS117.far ?_ NB0_376.out _ | refine IsS117.far ?_ NB0_390.out _) | exact HI0.out)); (case side2 => repeat (first | (with_reducible first | exact HB.out | apply below_alloc | apply pw_below_drewN | apply below_drew1 | refine below_set ?_ (IsS117.ge HI0.out) | refine below_set ?_ GE376.out | refine below_set ?_ GE390.out) | exact HB.out)); rintro e w91 ⟨rfl, hi, hb, hk⟩; refine ⟨_, rfl, ?_⟩; replace HO_9 := mk_ (Kd.S_mono (Kd.S_keep (IsS117.apartS (show IsS117 w0 _ g s0_0 t400 from by repeat (first | (with_reducible first | exact HI0.out | apply IsS117.alloc | apply IsS117.drewN | apply IsS117.drew | apply IsS117.set_1 | refine IsS117.far ?_ NB0_376.out _ | refine IsS117.far ?_ NB0_390.out _) | exact HI0.out)) (Kd.S_below HO_9.out lt_) (by decide)) hk (fun _ h => h.2)) (fun _ h => h.1)); replace HO_10 := mk_ (Kd.R_mono (Kd.R_keep (IsS117.apart (show IsS117 w0 _ g s0_0 t400 from by repeat (first | (with_reducible first | exact HI0.out | apply IsS117.alloc | apply IsS117.drewN | apply IsS117.drew | apply IsS117.set_1 | refine IsS117.far ?_ NB0_376.out _ | refine IsS117.far ?_ NB0_390.out _) | exact HI0.out)) (Kd.R_below HO_10.out lt_) (by decide)) hk (fun _ h => h.2)) (fun _ h => h.1)); replace HO_391001 := mk_ (Kd.R_mono (Kd.R_keep (IsS117.apart (show IsS117 w0 _ g s0_0 t400 from by repeat (first | (with_reducible first | exact HI0.out | apply IsS117.alloc | apply IsS117.drewN | apply IsS117.drew | apply IsS117.set_1 | refine IsS117.far ?_ NB0_376.out _ | refine IsS117.far ?_ NB0_390.out _) | exact HI0.out)) (Kd.R_below HO_391001.out lt_) (by decide)) hk (fun _ h => h.2)) (fun _ h => h.1)); replace BK376 := mk_ (KeepBut.blk hk (g' := gb376) (o := .cells #[.int .i64 0, .slice none 0 0] 51 (0, 0)) (bk_ BK376.out) NB376_0.out (by simp)); replace BK390 := mk_ (KeepBut.blk hk (g' := gb390) (o := .cells #[.int .i64 x391000_4, u391001] 51 (0, 0)) (bk_ BK390.out) NB390_0.out (by simp)); replace HK := mk_ (KeepBut.trans (by repeat (first | (with_reducible first | exact HK.out | apply KeepBut.set_ | apply keep_drewN | apply keep_drew | apply keep_alloc | refine keep_far ?_ GW376.out _ | refine keep_far ?_ GW390.out _) | exact HK.out)) hk (.inl rfl)); replace HB := mk_ (hb); replace HI0 := mk_ (hi); (try clear hb); have hnb92 := NB390_376.out; have hnc92 := NB376_390.out; have hnb93 := NB390_0.out; have hnc93 := NB0_390.out; have hcz94_0 : w91.cell? ⟨gb390, 0, none⟩ = some (.int .i64 x391000_4) := (blk_cell BK390.out 0).trans rfl; have hcz94_1 : w91.cell? ⟨gb390, 1, none⟩ = some (u391001) := (blk_cell BK390.out 1).trans rfl; have hfz94_0 := blk_frozen BK390.out 0; have hfz94_1 := blk_frozen BK390.out 1; obtain ⟨Ao95, co95, eo95⟩ := Kd.R_slice HO_391001.out; subst eo95))
   replace HO_9 := mk_ (Kd.S_drew HO_9.out)
   replace HO_10 := mk_ (Kd.R_drew HO_10.out)
   replace HO_391001 := mk_ (Kd.R_drew HO_391001.out)
   replace BK376 := mk_ (blk_drew BK376.out)
   replace BK390 := mk_ (blk_drew BK390.out)
   replace HI0 := mk_ (IsS117.drew HI0.out)
   replace HK := mk_ (keep_drew HK.out)
   replace HB := mk_ (below_drew1 HB.out)
   refine start_ (n := 8) (S := fun w' => w'.cell? ⟨gb390, 0, none⟩ = some (.int .i64 x391000_4) ∧ w'.cell? ⟨gb390, 1, none⟩ = some (.slice Ao95 x391001_4.length co95)) (ds := [7]) #[false, false, false, false, false, false, false, false] (by kernel_rfl) rfl rfl ⟨(blk_cell BK390.out 0).trans rfl, (blk_cell BK390.out 1).trans rfl⟩ (fun hHeld => ?_); refine with_tabW spec_l20Proof.tab9 spec_l20Proof.bits9 (fun HT_ HW_ => ?_)
   generalize w91.drew = w96 at HO_9 HO_10 HO_391001 BK376 BK390 HI0 HK HB hHeld ⊢
   refine pus_ 0 (some 46) (ao_ HT_) ?_
   refine pus_ 2 (some 48) (ao_ HT_) ?_
   refine tas_ 1 (some 47) (to_ HT_ HW_) hHeld ?_
   refine ons_ 3 (some 49) (oo_ HT_) (fun K hK => ?_)
   refine goes_ Try.func60 (by kernel_rfl) rfl #[.pointer (some ⟨g, 0, none⟩), .int .i64 5] (by rfl) rfl rfl gl_ ?_
   with_reducible refine (spec_l20Rd_pick.calls kj4 g s0_0 t402 5 t415 t416 w0 _ ?side1 ?side2 A87.out).mono ?_
   (case side1 => repeat (first | (with_reducible first | exact HI0.out | apply IsS117.alloc | apply IsS117.drewN | apply IsS117.drew | apply IsS117.set_1 | refine IsS117.far ?_ NB0_376.out _ | refine IsS117.far ?_ NB0_390.out _) | exact HI0.out))
   (case side2 => repeat (first | (with_reducible first | exact HB.out | apply below_alloc | apply pw_below_drewN | apply below_drew1 | refine below_set ?_ (IsS117.ge HI0.out) | refine below_set ?_ GE376.out | refine below_set ?_ GE390.out) | exact HB.out))
   rintro e w97 ⟨rfl, hi, hb, hk⟩
   refine ⟨_, rfl, ?_⟩
   replace HO_9 := mk_ (Kd.S_mono (Kd.S_keep (IsS117.apartS (show IsS117 w0 _ g s0_0 t402 from by repeat (first | (with_reducible first | exact HI0.out | apply IsS117.alloc | apply IsS117.drewN | apply IsS117.drew | apply IsS117.set_1 | refine IsS117.far ?_ NB0_376.out _ | refine IsS117.far ?_ NB0_390.out _) | exact HI0.out)) (Kd.S_below HO_9.out lt_) (by decide)) hk (fun _ h => h.2)) (fun _ h => h.1))
   replace HO_10 := mk_ (Kd.R_mono (Kd.R_keep (IsS117.apart (show IsS117 w0 _ g s0_0 t402 from by repeat (first | (with_reducible first | exact HI0.out | apply IsS117.alloc | apply IsS117.drewN | apply IsS117.drew | apply IsS117.set_1 | refine IsS117.far ?_ NB0_376.out _ | refine IsS117.far ?_ NB0_390.out _) | exact HI0.out)) (Kd.R_below HO_10.out lt_) (by decide)) hk (fun _ h => h.2)) (fun _ h => h.1))
   replace HO_391001 := mk_ (Kd.R_mono (Kd.R_keep (IsS117.apart (show IsS117 w0 _ g s0_0 t402 from by repeat (first | (with_reducible first | exact HI0.out | apply IsS117.alloc | apply IsS117.drewN | apply IsS117.drew | apply IsS117.set_1 | refine IsS117.far ?_ NB0_376.out _ | refine IsS117.far ?_ NB0_390.out _) | exact HI0.out)) (Kd.R_below HO_391001.out lt_) (by decide)) hk (fun _ h => h.2)) (fun _ h => h.1))
   replace BK376 := mk_ (KeepBut.blk hk (g' := gb376) (o := .cells #[.int .i64 0, .slice none 0 0] 51 (0, 0)) (bk_ BK376.out) NB376_0.out (by simp))
   replace BK390 := mk_ (KeepBut.blk hk (g' := gb390) (o := .cells #[.int .i64 x391000_4, .slice Ao95 x391001_4.length co95] 51 (0, 0)) (bk_ BK390.out) NB390_0.out (by simp))
   replace HK := mk_ (KeepBut.trans (by repeat (first | (with_reducible first | exact HK.out | apply KeepBut.set_ | apply keep_drewN | apply keep_drew | apply keep_alloc | refine keep_far ?_ GW376.out _ | refine keep_far ?_ GW390.out _) | exact HK.out)) hk (.inl rfl))
   replace HB := mk_ (hb)
   replace HI0 := mk_ (hi)
   (try clear hb)
   (try clear hb2)
   (try clear hk)
   (try clear hi)
   have p89 : 0 ≤ (0 : Int) := (by omega)
   have q89 : (0 : Int) < ((x391001_4.length : Int) : Int) := oa_
   have qi89 : (0 < x391001_4.length) = True := eq_true (by omega)
   obtain ⟨go89, co89, eo89, gb89, gl89, cl89, HG89⟩ := Kd.R_form HO_391001.out (by omega)
   (first | cases eo89 | (injection eo89 with ea_ en_ ec_; (first | subst ea_ | (injection ea_ with ea_; subst ea_)); subst ec_; clear en_))
   have GB89 := mk_ gb89
   have GG89 := mk_ HG89
   clear gb89 gl89 HG89
   obtain ⟨ce89, hcl89, hM89, hcc89, hfr89⟩ := Kd.R_elem HO_391001.out z93 (0 : Int) p89 q89
   obtain rfl := k93_openM hM89
   have hx89_0 : World.cell? _ ⟨go89, (0 : Int).toNat * 3, none⟩ = some (.int .i64 ((rd_T93 x391001_4 0).f0)) := hcc89 0 _ rfl
   have hx89_1 : World.cell? _ ⟨go89, (0 : Int).toNat * 3 + 1, none⟩ = some (.int .i64 ((rd_T93 x391001_4 0).f1)) := hcc89 1 _ rfl
   have hx89_2 : World.cell? _ ⟨go89, (0 : Int).toNat * 3 + 2, none⟩ = some (.int .i64 ((rd_T93 x391001_4 0).f2)) := hcc89 2 _ rfl
   have hf89_0 : World.frozen? _ ⟨go89, (0 : Int).toNat * 3, none⟩ = false := hfr89 0
   have hf89_1 : World.frozen? _ ⟨go89, (0 : Int).toNat * 3 + 1, none⟩ = false := hfr89 1
   have hf89_2 : World.frozen? _ ⟨go89, (0 : Int).toNat * 3 + 2, none⟩ = false := hfr89 2
   (try clear hM89); clear hcl89 hcc89 hfr89
   (try rw [show ((0 : Int)).toNat = 0 from rfl] at hx89_0)
   (try simp only [Nat.reduceMul, Nat.zero_mul, Nat.zero_add, Nat.reduceAdd] at hx89_0)
   (try rw [show ((0 : Int)).toNat = 0 from rfl] at hf89_0)
   (try simp only [Nat.reduceMul, Nat.zero_mul, Nat.zero_add, Nat.reduceAdd] at hf89_0)
   (try rw [show ((0 : Int)).toNat = 0 from rfl] at hx89_1)
   (try simp only [Nat.reduceMul, Nat.zero_mul, Nat.zero_add, Nat.reduceAdd] at hx89_1)
   (try rw [show ((0 : Int)).toNat = 0 from rfl] at hf89_1)
   (try simp only [Nat.reduceMul, Nat.zero_mul, Nat.zero_add, Nat.reduceAdd] at hf89_1)
   (try rw [show ((0 : Int)).toNat = 0 from rfl] at hx89_2)
   (try simp only [Nat.reduceMul, Nat.zero_mul, Nat.zero_add, Nat.reduceAdd] at hx89_2)
   (try rw [show ((0 : Int)).toNat = 0 from rfl] at hf89_2)
   (try simp only [Nat.reduceMul, Nat.zero_mul, Nat.zero_add, Nat.reduceAdd] at hf89_2)
   replace p89 := eq_true p89
   replace q89 := eq_true q89
   have HN0_go89 := mk_ (show g ≠ go89 from by have h_ := IsS117.own_ne HI0.out HO_391001.out (by decide); intro e_; exact h_ (by rw [e_]; rfl))
   obtain ⟨ce98, hcl98, hM98, hcc98, hfr98⟩ := Kd.R_elem HO_391001.out z93 (0 : Int) (by omega) (by have h_ : (0 : Int) < ((x391001_4.length : Int) : Int) := oa_; first | exact h_ | (have e_ := (Kd.R_reads' HO_391001.out).1; omega) | simpa using h_)
   obtain rfl := k93_openM hM98
   have HP98 := (Kd.R_seg HO_391001.out (0 : Int) (by omega) (by have h_ : (0 : Int) < ((x391001_4.length : Int) : Int) := oa_; first | exact h_ | (have e_ := (Kd.R_reads' HO_391001.out).1; omega) | simpa using h_) (seg := [.int .i64 (wrap64 (t415 - 3))]) (j := 1) hcl98 hcc98 (show 2 ≤ 3 from by decide) (x' := (⟨(rd_T93 x391001_4 0).f0, wrap64 (t415 - 3), (rd_T93 x391001_4 0).f2⟩ : S93)) (k93_mkM _ _ _ (⟨(rd_T93 x391001_4 0).f0, wrap64 (t415 - 3), (rd_T93 x391001_4 0).f2⟩ : S93) ) (fun _ hk => hk)).1
   rw [← Ny417.out] at HP98
   have HQ98 := mk_ HP98
   (try clear hM98); clear hcl98 hcc98 hfr98 HP98
   refine hK.out _ _ ⟨(blk_cell BK390.out 0).trans rfl, (blk_cell BK390.out 1).trans rfl⟩ (fun hHeld => ?_)
   clear hK K
   refine nor_ (some 49) ?_
   refine pus_ 4 (some 50) (ao_ HT_) ?_
   refine pus_ 5 (some 51) (ao_ HT_) ?_
   refine pus_ 6 (some 52) (ao_ HT_) ?_
   refine last_ (i := 7) (N := none) #[true, true, true, true, true, true, true, true] rfl rfl (one_of HT_.out (by kernel_rfl)) (by decide) (fun K hK => ?_)
   refine skip_ (w1 := ?_) (by rfl) rfl ?_ ?_
   rotate_left
   ·go_simp
    rfl
   refine hK.out _ _ ?_
   clear hK K
   refine done_ (done_of HT_.out (by kernel_rfl)) ?_
   have n0_ : Aside0 (Kd.S k38 38 (w97.setCell ⟨go89, 1, none⟩ (.int .i64 (wrap64 (t415 - 3)))) w.heap.size (fun k_ => some k_ ≠ (u10 : Value).ownBlock) (.slice Ao8 t378.length co8) t378) := ⟨by (with_reducible repeat (first | apply Kd.S_alloc | apply Kd.S_drewN | apply Kd.S_drew)); exact Kd.S_mono (Kd.S_far (p := ⟨go89, 1, none⟩) (Kd.S_types HO_9.out GG89.out (by decide)) (fun _ hk => hk.2) (.int .i64 (wrap64 (t415 - 3)))) (fun _ hk => hk.1)⟩
   have n1_ : Aside0 (Kd.R k47 47 (w97.setCell ⟨go89, 1, none⟩ (.int .i64 (wrap64 (t415 - 3)))) w.heap.size (fun _ => True) u10 x10_4) := ⟨by (with_reducible repeat (first | apply Kd.R_alloc | apply Kd.R_drewN | apply Kd.R_drew)); exact Kd.R_mono (Kd.R_far (p := ⟨go89, 1, none⟩) (Kd.R_types HO_10.out GG89.out (by decide)) (fun _ hk => hk.2) (.int .i64 (wrap64 (t415 - 3)))) (fun _ hk => trivial)⟩
   have n2_ : Aside0 (Kd.R k93 93 (w97.setCell ⟨go89, 1, none⟩ (.int .i64 (wrap64 (t415 - 3)))) w.heap.size (fun _ => True) (.slice (some ⟨go89, 0, none⟩) x391001_4.length co95) y417) := ⟨by exact HQ98.out⟩
   have n3_ : Aside0 ((w97.setCell ⟨go89, 1, none⟩ (.int .i64 (wrap64 (t415 - 3)))).heap[gb376]? = some (.cells #[.int .i64 0, .slice none 0 0] 51 (0, 0))) := ⟨by refine bs_ ?_; refine blk_far ?_ (by have h_ := Kd.R_ne HO_391001.out BK376.out (by decide); intro e_; exact h_ (by rw [e_]; rfl)) _; refine bs_ ?_; exact BK376.out⟩
   have n4_ : Aside0 ((w97.setCell ⟨go89, 1, none⟩ (.int .i64 (wrap64 (t415 - 3)))).heap[gb390]? = some (.cells #[.int .i64 x391000_4, .slice (some ⟨go89, 0, none⟩) x391001_4.length co95] 51 (0, 0))) := ⟨by refine bs_ ?_; refine blk_far ?_ (by have h_ := Kd.R_ne HO_391001.out BK390.out (by decide); intro e_; exact h_ (by rw [e_]; rfl)) _; refine bs_ ?_; exact BK390.out⟩
   have n5_ : Aside0 (IsS117 w0 (w97.setCell ⟨go89, 1, none⟩ (.int .i64 (wrap64 (t415 - 3)))) g s0_0 t416) := ⟨by repeat (first | (with_reducible first | exact HI0.out | apply IsS117.alloc | apply IsS117.drewN | apply IsS117.drew | apply IsS117.set_1 | refine IsS117.far ?_ HN0_go89.out _ | refine IsS117.far ?_ NB0_376.out _ | refine IsS117.far ?_ NB0_390.out _) | exact HI0.out)⟩
   have n6_ : Aside0 (KeepBut w (w97.setCell ⟨go89, 1, none⟩ (.int .i64 (wrap64 (t415 - 3)))) g none) := ⟨by repeat (first | (with_reducible first | exact HK.out | apply KeepBut.set_ | apply keep_drewN | apply keep_drew | apply keep_alloc | refine keep_far ?_ GB89.out _ | refine keep_far ?_ GW376.out _ | refine keep_far ?_ GW390.out _) | exact HK.out)⟩
   have n7_ : Aside0 (Below w0.heap.size w0 (w97.setCell ⟨go89, 1, none⟩ (.int .i64 (wrap64 (t415 - 3))))) := ⟨by repeat (first | (with_reducible first | exact HB.out | apply below_alloc | apply pw_below_drewN | apply below_drew1 | refine below_set ?_ (Nat.le_trans HL.out GB89.out) | refine below_set ?_ (IsS117.ge HI0.out) | refine below_set ?_ GE376.out | refine below_set ?_ GE390.out) | exact HB.out)⟩
   (try clear HO_9)
   (try clear HO_10)
   (try clear HO_391001)
   (try clear BK376)
   (try clear BK390)
   (try clear HI0)
   (try clear HK)
   (try clear HB)
   generalize (w97.setCell ⟨go89, 1, none⟩ (.int .i64 (wrap64 (t415 - 3)))) = w99 at n0_ n1_ n2_ n3_ n4_ n5_ n6_ n7_ ⊢
   have HO_9 := n0_
   have HO_10 := n1_
   have HO_391001 := n2_
   have BK376 := n3_
   have BK390 := n4_
   have HI0 := n5_
   have HK := n6_
   have HB := n7_
   clear n0_ n1_ n2_ n3_ n4_ n5_ n6_ n7_
   try go_wp2
   replace HO_9 := mk_ (Kd.S_drew HO_9.out)
   replace HO_10 := mk_ (Kd.R_drew HO_10.out)
   replace HO_391001 := mk_ (Kd.R_drew HO_391001.out)
   replace BK376 := mk_ (blk_drew BK376.out)
   replace BK390 := mk_ (blk_drew BK390.out)
   replace HI0 := mk_ (IsS117.drew HI0.out)
   replace HK := mk_ (keep_drew HK.out)
   replace HB := mk_ (below_drew1 HB.out)
   refine start_ (n := 8) (S := fun w' => w'.cell? ⟨gb390, 0, none⟩ = some (.int .i64 x391000_4) ∧ w'.cell? ⟨gb390, 1, none⟩ = some (.slice (some ⟨go89, 0, none⟩) x391001_4.length co95)) (ds := []) #[false, false, false, false, false, false, false, false] (by kernel_rfl) rfl rfl ⟨(blk_cell BK390.out 0).trans rfl, (blk_cell BK390.out 1).trans rfl⟩ (fun hHeld => ?_); refine with_tabW spec_l20Proof.tab17 spec_l20Proof.bits17 (fun HT_ HW_ => ?_)
   generalize w99.drew = w100 at HO_9 HO_10 HO_391001 BK376 HI0 HK HB hHeld ⊢
   refine pus_ 0 (some 86) (ao_ HT_) ?_
   refine pus_ 1 (some 87) (ao_ HT_) ?_
   refine pus_ 2 (some 88) (ao_ HT_) ?_
   refine pus_ 4 (some 4) (ao_ HT_) ?_
   refine pus_ 5 (some 5) (ao_ HT_) ?_
   refine pus_ 6 (some 6) (ao_ HT_) ?_
   refine tas_ 3 (some 89) (to_ HT_ HW_) hHeld ?_
   refine ons_ 7 none (oo_ HT_) (fun K hK => ?_)
   have hs101 : w100.cell? ⟨gb376, 0, none⟩ = some (.int .i64 0) := (blk_cell BK376.out 0).trans rfl
   have hfs101 := blk_frozen BK376.out 0
   have hns101_1 := NB390_376.out
   have hms101_1 := NB376_390.out
   have hs102 : w100.cell? ⟨gb376, 1, none⟩ = some (.slice none 0 0) := (blk_cell BK376.out 1).trans rfl
   have hfs102 := blk_frozen BK376.out 1
   have hns102_1 := NB390_376.out
   have hms102_1 := NB376_390.out
   refine skip_ (w1 := ?_) (by rfl) rfl ?_ ?_
   rotate_left
   ·go_simp
    rfl
   refine hK.out _ _ ⟨((cell_far (p := ⟨gb376, _, none⟩) NB390_376.out _).trans (((cell_far (p := ⟨gb376, _, none⟩) NB390_376.out _).trans (hHeld.1)))), ((cell_far (p := ⟨gb376, _, none⟩) NB390_376.out _).trans (((cell_far (p := ⟨gb376, _, none⟩) NB390_376.out _).trans (hHeld.2))))⟩ (fun hHeld => ?_)
   clear hK K
   refine done_ (done_of HT_.out (by kernel_rfl)) ?_
   try go_wp2
   refine bodyPost_ret (results_list (rs := [.tmp 4, .tmp 5, .tmp 6, .cell 7 51]) rfl (by simp) (.tmp (.tmp (.tmp (.cell gb376 51 #[.int .i64 x391000_4, .slice (some ⟨go89, 0, none⟩) x391001_4.length co95] (0, 0) _ rfl (by refine bs_ ?_; refine blk_put (cs := #[.int .i64 x391000_4, .slice none 0 0]) ?_ 1 _ rfl; refine bs_ ?_; refine blk_put (cs := #[.int .i64 0, .slice none 0 0]) ?_ 0 _ rfl; refine bs_ ?_; exact BK376.out) Try.underlying51 rfl (by kernel_rfl) .nil))))) rfl ?_
   exact ⟨_, _, _, er_, by (with_reducible repeat (first | apply Kd.S_alloc | apply Kd.S_drewN | apply Kd.S_drew)); exact Kd.S_mono (Kd.S_far (p := ⟨gb376, 1, none⟩) (Kd.S_far (p := ⟨gb376, 0, none⟩) (Kd.S_types HO_9.out BK376.out (by decide)) (fun _ hk => hk.2) (.int .i64 x391000_4)) (fun _ hk => hk.2) (.slice (some ⟨go89, 0, none⟩) x391001_4.length co95)) (fun _ hk => hk.1), by (with_reducible repeat (first | apply Kd.R_alloc | apply Kd.R_drewN | apply Kd.R_drew)); exact Kd.R_mono (Kd.R_far (p := ⟨gb376, 1, none⟩) (Kd.R_far (p := ⟨gb376, 0, none⟩) (Kd.R_types HO_10.out BK376.out (by decide)) (fun _ hk => hk.2) (.int .i64 x391000_4)) (fun _ hk => hk.2) (.slice (some ⟨go89, 0, none⟩) x391001_4.length co95)) (fun _ hk => trivial), by (with_reducible repeat (first | apply Kd.R_alloc | apply Kd.R_drewN | apply Kd.R_drew)); exact Kd.R_mono (Kd.R_far (p := ⟨gb376, 1, none⟩) (Kd.R_far (p := ⟨gb376, 0, none⟩) (Kd.R_types HO_391001.out BK376.out (by decide)) (fun _ hk => hk.2) (.int .i64 x391000_4)) (fun _ hk => hk.2) (.slice (some ⟨go89, 0, none⟩) x391001_4.length co95)) (fun _ hk => trivial), by repeat (first | (with_reducible first | exact HI0.out | apply IsS117.alloc | apply IsS117.drewN | apply IsS117.drew | apply IsS117.set_1 | refine IsS117.far ?_ NB0_376.out _ | refine IsS117.far ?_ NB0_390.out _) | exact HI0.out), by repeat (first | (with_reducible first | exact HB.out | apply below_alloc | apply pw_below_drewN | apply below_drew1 | refine below_set ?_ (IsS117.ge HI0.out) | refine below_set ?_ GE376.out | refine below_set ?_ GE390.out) | exact HB.out), by repeat (first | (with_reducible first | exact HK.out | apply KeepBut.set_ | apply keep_drewN | apply keep_drew | apply keep_alloc | refine keep_far ?_ GW376.out _ | refine keep_far ?_ GW390.out _) | exact HK.out)⟩
  rw [if_pos c56] at H
  have c56b0 : (t401 == 2) = true := beq_iff_eq.mpr c56
  have c56b1 : (t401 != 2) = false := bne_eq_false_iff_eq.mpr c56
  clear c56
  by_cases c57 : (x391001_4.length : Int) > 0
  rotate_left
  ·rw [if_neg c57] at H
   have c57b0 : decide (0 < (x391001_4.length : Int)) = false := decide_eq_false c57
   have c57b1 : decide (0 < x391001_4.length) = false := decide_eq_false (by omega)
   clear c57
   simp only [Option.some.injEq, Prod.mk.injEq] at H
   obtain ⟨rfl, rfl, rfl, rfl, rfl, rfl⟩ := H
   try go_wp2_with (first | ((with_reducible refine gate_callee (f := 88) rfl ?_); refine goesL_ (some 39) rfl rfl Try.func88 (by kernel_rfl) rfl #[.pointer (some ⟨g, 0, none⟩), .int .i64 a1] rfl gl_ ?_; (with_reducible refine (spec_l20Rd_odd.calls kj4 g s0_0 t384 a1 true t400 w0 _ ?side1 ?side2 A26.out).mono ?_); (case side1 => repeat (first | (with_reducible first | exact HI0.out | apply IsS117.alloc | apply IsS117.drewN | apply IsS117.drew | apply IsS117.set_1 | refine IsS117.far ?_ NB0_376.out _ | refine IsS117.far ?_ NB0_390.out _) | exact HI0.out)); (case side2 => repeat (first | (with_reducible first | exact HB.out | apply below_alloc | apply pw_below_drewN | apply below_drew1 | refine below_set ?_ (IsS117.ge HI0.out) | refine below_set ?_ GE376.out | refine below_set ?_ GE390.out) | exact HB.out)); rintro e w77 ⟨rfl, hi, hb, hk⟩; refine ⟨_, rfl, ?_⟩; replace HO_9 := mk_ (Kd.S_mono (Kd.S_keep (IsS117.apartS (show IsS117 w0 _ g s0_0 t384 from by repeat (first | (with_reducible first | exact HI0.out | apply IsS117.alloc | apply IsS117.drewN | apply IsS117.drew | apply IsS117.set_1 | refine IsS117.far ?_ NB0_376.out _ | refine IsS117.far ?_ NB0_390.out _) | exact HI0.out)) (Kd.S_below HO_9.out lt_) (by decide)) hk (fun _ h => h.2)) (fun _ h => h.1)); replace HO_10 := mk_ (Kd.R_mono (Kd.R_keep (IsS117.apart (show IsS117 w0 _ g s0_0 t384 from by repeat (first | (with_reducible first | exact HI0.out | apply IsS117.alloc | apply IsS117.drewN | apply IsS117.drew | apply IsS117.set_1 | refine IsS117.far ?_ NB0_376.out _ | refine IsS117.far ?_ NB0_390.out _) | exact HI0.out)) (Kd.R_below HO_10.out lt_) (by decide)) hk (fun _ h => h.2)) (fun _ h => h.1)); replace HO_391001 := mk_ (Kd.R_mono (Kd.R_keep (IsS117.apart (show IsS117 w0 _ g s0_0 t384 from by repeat (first | (with_reducible first | exact HI0.out | apply IsS117.alloc | apply IsS117.drewN | apply IsS117.drew | apply IsS117.set_1 | refine IsS117.far ?_ NB0_376.out _ | refine IsS117.far ?_ NB0_390.out _) | exact HI0.out)) (Kd.R_below HO_391001.out lt_) (by decide)) hk (fun _ h => h.2)) (fun _ h => h.1)); replace BK376 := mk_ (KeepBut.blk hk (g' := gb376) (o := .cells #[.int .i64 0, .slice none 0 0] 51 (0, 0)) (bk_ BK376.out) NB376_0.out (by simp)); replace BK390 := mk_ (KeepBut.blk hk (g' := gb390) (o := .cells #[.int .i64 x391000_4, u391001] 51 (0, 0)) (bk_ BK390.out) NB390_0.out (by simp)); replace HK := mk_ (KeepBut.trans (by repeat (first | (with_reducible first | exact HK.out | apply KeepBut.set_ | apply keep_drewN | apply keep_drew | apply keep_alloc | refine keep_far ?_ GW376.out _ | refine keep_far ?_ GW390.out _) | exact HK.out)) hk (.inl rfl)); replace HB := mk_ (hb); replace HI0 := mk_ (hi); (try clear hb)) | ((with_reducible refine gate_callee (f := 60) rfl ?_); refine goesL_ (some 41) rfl rfl Try.func60 (by kernel_rfl) rfl #[.pointer (some ⟨g, 0, none⟩), .int .i64 4] rfl gl_ ?_; (with_reducible refine (spec_l20Rd_pick.calls kj4 g s0_0 t400 4 t401 t402 w0 _ ?side1 ?side2 A28.out).mono ?_); (case side1 => repeat (first | (with_reducible first | exact HI0.out | apply IsS117.alloc | apply IsS117.drewN | apply IsS117.drew | apply IsS117.set_1 | refine IsS117.far ?_ NB0_376.out _ | refine IsS117.far ?_ NB0_390.out _) | exact HI0.out)); (case side2 => repeat (first | (with_reducible first | exact HB.out | apply below_alloc | apply pw_below_drewN | apply below_drew1 | refine below_set ?_ (IsS117.ge HI0.out) | refine below_set ?_ GE376.out | refine below_set ?_ GE390.out) | exact HB.out)); rintro e w78 ⟨rfl, hi, hb, hk⟩; refine ⟨_, rfl, ?_⟩; replace HO_9 := mk_ (Kd.S_mono (Kd.S_keep (IsS117.apartS (show IsS117 w0 _ g s0_0 t400 from by repeat (first | (with_reducible first | exact HI0.out | apply IsS117.alloc | apply IsS117.drewN | apply IsS117.drew | apply IsS117.set_1 | refine IsS117.far ?_ NB0_376.out _ | refine IsS117.far ?_ NB0_390.out _) | exact HI0.out)) (Kd.S_below HO_9.out lt_) (by decide)) hk (fun _ h => h.2)) (fun _ h => h.1)); replace HO_10 := mk_ (Kd.R_mono (Kd.R_keep (IsS117.apart (show IsS117 w0 _ g s0_0 t400 from by repeat (first | (with_reducible first | exact HI0.out | apply IsS117.alloc | apply IsS117.drewN | apply IsS117.drew | apply IsS117.set_1 | refine IsS117.far ?_ NB0_376.out _ | refine IsS117.far ?_ NB0_390.out _) | exact HI0.out)) (Kd.R_below HO_10.out lt_) (by decide)) hk (fun _ h => h.2)) (fun _ h => h.1)); replace HO_391001 := mk_ (Kd.R_mono (Kd.R_keep (IsS117.apart (show IsS117 w0 _ g s0_0 t400 from by repeat (first | (with_reducible first | exact HI0.out | apply IsS117.alloc | apply IsS117.drewN | apply IsS117.drew | apply IsS117.set_1 | refine IsS117.far ?_ NB0_376.out _ | refine IsS117.far ?_ NB0_390.out _) | exact HI0.out)) (Kd.R_below HO_391001.out lt_) (by decide)) hk (fun _ h => h.2)) (fun _ h => h.1)); replace BK376 := mk_ (KeepBut.blk hk (g' := gb376) (o := .cells #[.int .i64 0, .slice none 0 0] 51 (0, 0)) (bk_ BK376.out) NB376_0.out (by simp)); replace BK390 := mk_ (KeepBut.blk hk (g' := gb390) (o := .cells #[.int .i64 x391000_4, u391001] 51 (0, 0)) (bk_ BK390.out) NB390_0.out (by simp)); replace HK := mk_ (KeepBut.trans (by repeat (first | (with_reducible first | exact HK.out | apply KeepBut.set_ | apply keep_drewN | apply keep_drew | apply keep_alloc | refine keep_far ?_ GW376.out _ | refine keep_far ?_ GW390.out _) | exact HK.out)) hk (.inl rfl)); replace HB := mk_ (hb); replace HI0 := mk_ (hi); (try clear hb); have hnb79 := NB390_376.out; have hnc79 := NB376_390.out; have hnb80 := NB390_0.out; have hnc80 := NB0_390.out; have hcz81_0 : w78.cell? ⟨gb390, 0, none⟩ = some (.int .i64 x391000_4) := (blk_cell BK390.out 0).trans rfl; have hcz81_1 : w78.cell? ⟨gb390, 1, none⟩ = some (u391001) := (blk_cell BK390.out 1).trans rfl; have hfz81_0 := blk_frozen BK390.out 0; have hfz81_1 := blk_frozen BK390.out 1; obtain ⟨Ao82, co82, eo82⟩ := Kd.R_slice HO_391001.out; subst eo82))
   replace HO_9 := mk_ (Kd.S_drew HO_9.out)
   replace HO_10 := mk_ (Kd.R_drew HO_10.out)
   replace HO_391001 := mk_ (Kd.R_drew HO_391001.out)
   replace BK376 := mk_ (blk_drew BK376.out)
   replace BK390 := mk_ (blk_drew BK390.out)
   replace HI0 := mk_ (IsS117.drew HI0.out)
   replace HK := mk_ (keep_drew HK.out)
   replace HB := mk_ (below_drew1 HB.out)
   refine start_ (n := 8) (S := fun w' => w'.cell? ⟨gb390, 0, none⟩ = some (.int .i64 x391000_4) ∧ w'.cell? ⟨gb390, 1, none⟩ = some (.slice Ao82 x391001_4.length co82)) (ds := []) #[false, false, false, false, false, false, false, false] (by kernel_rfl) rfl rfl ⟨(blk_cell BK390.out 0).trans rfl, (blk_cell BK390.out 1).trans rfl⟩ (fun hHeld => ?_); refine with_tabW spec_l20Proof.tab17 spec_l20Proof.bits17 (fun HT_ HW_ => ?_)
   generalize w78.drew = w83 at HO_9 HO_10 HO_391001 BK376 HI0 HK HB hHeld ⊢
   refine pus_ 0 (some 86) (ao_ HT_) ?_
   refine pus_ 1 (some 87) (ao_ HT_) ?_
   refine pus_ 2 (some 88) (ao_ HT_) ?_
   refine pus_ 4 (some 4) (ao_ HT_) ?_
   refine pus_ 5 (some 5) (ao_ HT_) ?_
   refine pus_ 6 (some 6) (ao_ HT_) ?_
   refine tas_ 3 (some 89) (to_ HT_ HW_) hHeld ?_
   refine ons_ 7 none (oo_ HT_) (fun K hK => ?_)
   have hs84 : w83.cell? ⟨gb376, 0, none⟩ = some (.int .i64 0) := (blk_cell BK376.out 0).trans rfl
   have hfs84 := blk_frozen BK376.out 0
   have hns84_1 := NB390_376.out
   have hms84_1 := NB376_390.out
   have hs85 : w83.cell? ⟨gb376, 1, none⟩ = some (.slice none 0 0) := (blk_cell BK376.out 1).trans rfl
   have hfs85 := blk_frozen BK376.out 1
   have hns85_1 := NB390_376.out
   have hms85_1 := NB376_390.out
   refine skip_ (w1 := ?_) (by rfl) rfl ?_ ?_
   rotate_left
   ·go_simp
    rfl
   refine hK.out _ _ ⟨((cell_far (p := ⟨gb376, _, none⟩) NB390_376.out _).trans (((cell_far (p := ⟨gb376, _, none⟩) NB390_376.out _).trans (hHeld.1)))), ((cell_far (p := ⟨gb376, _, none⟩) NB390_376.out _).trans (((cell_far (p := ⟨gb376, _, none⟩) NB390_376.out _).trans (hHeld.2))))⟩ (fun hHeld => ?_)
   clear hK K
   refine done_ (done_of HT_.out (by kernel_rfl)) ?_
   try go_wp2
   refine bodyPost_ret (results_list (rs := [.tmp 4, .tmp 5, .tmp 6, .cell 7 51]) rfl (by simp) (.tmp (.tmp (.tmp (.cell gb376 51 #[.int .i64 x391000_4, .slice Ao82 x391001_4.length co82] (0, 0) _ rfl (by refine bs_ ?_; refine blk_put (cs := #[.int .i64 x391000_4, .slice none 0 0]) ?_ 1 _ rfl; refine bs_ ?_; refine blk_put (cs := #[.int .i64 0, .slice none 0 0]) ?_ 0 _ rfl; refine bs_ ?_; exact BK376.out) Try.underlying51 rfl (by kernel_rfl) .nil))))) rfl ?_
   exact ⟨_, _, _, er_, by (with_reducible repeat (first | apply Kd.S_alloc | apply Kd.S_drewN | apply Kd.S_drew)); exact Kd.S_mono (Kd.S_far (p := ⟨gb376, 1, none⟩) (Kd.S_far (p := ⟨gb376, 0, none⟩) (Kd.S_types HO_9.out BK376.out (by decide)) (fun _ hk => hk.2) (.int .i64 x391000_4)) (fun _ hk => hk.2) (.slice Ao82 x391001_4.length co82)) (fun _ hk => hk.1), by (with_reducible repeat (first | apply Kd.R_alloc | apply Kd.R_drewN | apply Kd.R_drew)); exact Kd.R_mono (Kd.R_far (p := ⟨gb376, 1, none⟩) (Kd.R_far (p := ⟨gb376, 0, none⟩) (Kd.R_types HO_10.out BK376.out (by decide)) (fun _ hk => hk.2) (.int .i64 x391000_4)) (fun _ hk => hk.2) (.slice Ao82 x391001_4.length co82)) (fun _ hk => trivial), by (with_reducible repeat (first | apply Kd.R_alloc | apply Kd.R_drewN | apply Kd.R_drew)); exact Kd.R_mono (Kd.R_far (p := ⟨gb376, 1, none⟩) (Kd.R_far (p := ⟨gb376, 0, none⟩) (Kd.R_types HO_391001.out BK376.out (by decide)) (fun _ hk => hk.2) (.int .i64 x391000_4)) (fun _ hk => hk.2) (.slice Ao82 x391001_4.length co82)) (fun _ hk => trivial), by repeat (first | (with_reducible first | exact HI0.out | apply IsS117.alloc | apply IsS117.drewN | apply IsS117.drew | apply IsS117.set_1 | refine IsS117.far ?_ NB0_376.out _ | refine IsS117.far ?_ NB0_390.out _) | exact HI0.out), by repeat (first | (with_reducible first | exact HB.out | apply below_alloc | apply pw_below_drewN | apply below_drew1 | refine below_set ?_ (IsS117.ge HI0.out) | refine below_set ?_ GE376.out | refine below_set ?_ GE390.out) | exact HB.out), by repeat (first | (with_reducible first | exact HK.out | apply KeepBut.set_ | apply keep_drewN | apply keep_drew | apply keep_alloc | refine keep_far ?_ GW376.out _ | refine keep_far ?_ GW390.out _) | exact HK.out)⟩
  rw [if_pos c57] at H
  have c57b0 : decide (0 < (x391001_4.length : Int)) = true := decide_eq_true c57
  have c57b1 : decide (0 < x391001_4.length) = true := decide_eq_true (by omega)
  clear c57
  replace H := Option.bind_eq_some_iff.mp H
  obtain ⟨⟨t410, t411⟩, A580, H⟩ := H
  try dsimp only at H
  have A58 := mk_ A580
  clear A580
  replace H := Option.bind_eq_some_iff.mp H
  obtain ⟨⟨t412, t413⟩, A590, H⟩ := H
  try dsimp only at H
  have A59 := mk_ A590
  clear A590
  by_cases c60 : 0 ≤ t410
  rotate_left
  ·rw [if_neg c60] at H
   exact absurd H (by simp)
  rw [if_pos c60] at H
  have c60b0 : decide (0 ≤ t410) = true := decide_eq_true c60
  clear c60
  by_cases c61 : t410 < (x391001_4.length : Int)
  rotate_left
  ·rw [if_neg c61] at H
   exact absurd H (by simp)
  rw [if_pos c61] at H
  have c61b0 : decide (t410 < (x391001_4.length : Int)) = true := decide_eq_true c61
  clear c61
  obtain ⟨y414, hy414⟩ : ∃ y_ : List (S93), y_ = (x391001_4.set (t410 : Int).toNat (⟨t412, (rd_T93 x391001_4 t410).f1, (rd_T93 x391001_4 t410).f2⟩ : S93)) := ⟨_, rfl⟩
  first | (replace H := bn_ hy414 H; try dsimp only at H) | rw [← hy414] at H
  have Ny414 := mk_ hy414
  clear hy414
  simp only [Option.some.injEq, Prod.mk.injEq] at H
  obtain ⟨rfl, rfl, rfl, rfl, rfl, rfl⟩ := H
  try go_wp2_with (first | ((with_reducible refine gate_callee (f := 88) rfl ?_); refine goesL_ (some 39) rfl rfl Try.func88 (by kernel_rfl) rfl #[.pointer (some ⟨g, 0, none⟩), .int .i64 a1] rfl gl_ ?_; (with_reducible refine (spec_l20Rd_odd.calls kj4 g s0_0 t384 a1 true t400 w0 _ ?side1 ?side2 A26.out).mono ?_); (case side1 => repeat (first | (with_reducible first | exact HI0.out | apply IsS117.alloc | apply IsS117.drewN | apply IsS117.drew | apply IsS117.set_1 | refine IsS117.far ?_ NB0_376.out _ | refine IsS117.far ?_ NB0_390.out _) | exact HI0.out)); (case side2 => repeat (first | (with_reducible first | exact HB.out | apply below_alloc | apply pw_below_drewN | apply below_drew1 | refine below_set ?_ (IsS117.ge HI0.out) | refine below_set ?_ GE376.out | refine below_set ?_ GE390.out) | exact HB.out)); rintro e w63 ⟨rfl, hi, hb, hk⟩; refine ⟨_, rfl, ?_⟩; replace HO_9 := mk_ (Kd.S_mono (Kd.S_keep (IsS117.apartS (show IsS117 w0 _ g s0_0 t384 from by repeat (first | (with_reducible first | exact HI0.out | apply IsS117.alloc | apply IsS117.drewN | apply IsS117.drew | apply IsS117.set_1 | refine IsS117.far ?_ NB0_376.out _ | refine IsS117.far ?_ NB0_390.out _) | exact HI0.out)) (Kd.S_below HO_9.out lt_) (by decide)) hk (fun _ h => h.2)) (fun _ h => h.1)); replace HO_10 := mk_ (Kd.R_mono (Kd.R_keep (IsS117.apart (show IsS117 w0 _ g s0_0 t384 from by repeat (first | (with_reducible first | exact HI0.out | apply IsS117.alloc | apply IsS117.drewN | apply IsS117.drew | apply IsS117.set_1 | refine IsS117.far ?_ NB0_376.out _ | refine IsS117.far ?_ NB0_390.out _) | exact HI0.out)) (Kd.R_below HO_10.out lt_) (by decide)) hk (fun _ h => h.2)) (fun _ h => h.1)); replace HO_391001 := mk_ (Kd.R_mono (Kd.R_keep (IsS117.apart (show IsS117 w0 _ g s0_0 t384 from by repeat (first | (with_reducible first | exact HI0.out | apply IsS117.alloc | apply IsS117.drewN | apply IsS117.drew | apply IsS117.set_1 | refine IsS117.far ?_ NB0_376.out _ | refine IsS117.far ?_ NB0_390.out _) | exact HI0.out)) (Kd.R_below HO_391001.out lt_) (by decide)) hk (fun _ h => h.2)) (fun _ h => h.1)); replace BK376 := mk_ (KeepBut.blk hk (g' := gb376) (o := .cells #[.int .i64 0, .slice none 0 0] 51 (0, 0)) (bk_ BK376.out) NB376_0.out (by simp)); replace BK390 := mk_ (KeepBut.blk hk (g' := gb390) (o := .cells #[.int .i64 x391000_4, u391001] 51 (0, 0)) (bk_ BK390.out) NB390_0.out (by simp)); replace HK := mk_ (KeepBut.trans (by repeat (first | (with_reducible first | exact HK.out | apply KeepBut.set_ | apply keep_drewN | apply keep_drew | apply keep_alloc | refine keep_far ?_ GW376.out _ | refine keep_far ?_ GW390.out _) | exact HK.out)) hk (.inl rfl)); replace HB := mk_ (hb); replace HI0 := mk_ (hi); (try clear hb)) | ((with_reducible refine gate_callee (f := 60) rfl ?_); refine goesL_ (some 41) rfl rfl Try.func60 (by kernel_rfl) rfl #[.pointer (some ⟨g, 0, none⟩), .int .i64 4] rfl gl_ ?_; (with_reducible refine (spec_l20Rd_pick.calls kj4 g s0_0 t400 4 t401 t402 w0 _ ?side1 ?side2 A28.out).mono ?_); (case side1 => repeat (first | (with_reducible first | exact HI0.out | apply IsS117.alloc | apply IsS117.drewN | apply IsS117.drew | apply IsS117.set_1 | refine IsS117.far ?_ NB0_376.out _ | refine IsS117.far ?_ NB0_390.out _) | exact HI0.out)); (case side2 => repeat (first | (with_reducible first | exact HB.out | apply below_alloc | apply pw_below_drewN | apply below_drew1 | refine below_set ?_ (IsS117.ge HI0.out) | refine below_set ?_ GE376.out | refine below_set ?_ GE390.out) | exact HB.out)); rintro e w64 ⟨rfl, hi, hb, hk⟩; refine ⟨_, rfl, ?_⟩; replace HO_9 := mk_ (Kd.S_mono (Kd.S_keep (IsS117.apartS (show IsS117 w0 _ g s0_0 t400 from by repeat (first | (with_reducible first | exact HI0.out | apply IsS117.alloc | apply IsS117.drewN | apply IsS117.drew | apply IsS117.set_1 | refine IsS117.far ?_ NB0_376.out _ | refine IsS117.far ?_ NB0_390.out _) | exact HI0.out)) (Kd.S_below HO_9.out lt_) (by decide)) hk (fun _ h => h.2)) (fun _ h => h.1)); replace HO_10 := mk_ (Kd.R_mono (Kd.R_keep (IsS117.apart (show IsS117 w0 _ g s0_0 t400 from by repeat (first | (with_reducible first | exact HI0.out | apply IsS117.alloc | apply IsS117.drewN | apply IsS117.drew | apply IsS117.set_1 | refine IsS117.far ?_ NB0_376.out _ | refine IsS117.far ?_ NB0_390.out _) | exact HI0.out)) (Kd.R_below HO_10.out lt_) (by decide)) hk (fun _ h => h.2)) (fun _ h => h.1)); replace HO_391001 := mk_ (Kd.R_mono (Kd.R_keep (IsS117.apart (show IsS117 w0 _ g s0_0 t400 from by repeat (first | (with_reducible first | exact HI0.out | apply IsS117.alloc | apply IsS117.drewN | apply IsS117.drew | apply IsS117.set_1 | refine IsS117.far ?_ NB0_376.out _ | refine IsS117.far ?_ NB0_390.out _) | exact HI0.out)) (Kd.R_below HO_391001.out lt_) (by decide)) hk (fun _ h => h.2)) (fun _ h => h.1)); replace BK376 := mk_ (KeepBut.blk hk (g' := gb376) (o := .cells #[.int .i64 0, .slice none 0 0] 51 (0, 0)) (bk_ BK376.out) NB376_0.out (by simp)); replace BK390 := mk_ (KeepBut.blk hk (g' := gb390) (o := .cells #[.int .i64 x391000_4, u391001] 51 (0, 0)) (bk_ BK390.out) NB390_0.out (by simp)); replace HK := mk_ (KeepBut.trans (by repeat (first | (with_reducible first | exact HK.out | apply KeepBut.set_ | apply keep_drewN | apply keep_drew | apply keep_alloc | refine keep_far ?_ GW376.out _ | refine keep_far ?_ GW390.out _) | exact HK.out)) hk (.inl rfl)); replace HB := mk_ (hb); replace HI0 := mk_ (hi); (try clear hb); have hnb65 := NB390_376.out; have hnc65 := NB376_390.out; have hnb66 := NB390_0.out; have hnc66 := NB0_390.out; have hcz67_0 : w64.cell? ⟨gb390, 0, none⟩ = some (.int .i64 x391000_4) := (blk_cell BK390.out 0).trans rfl; have hcz67_1 : w64.cell? ⟨gb390, 1, none⟩ = some (u391001) := (blk_cell BK390.out 1).trans rfl; have hfz67_0 := blk_frozen BK390.out 0; have hfz67_1 := blk_frozen BK390.out 1; obtain ⟨Ao68, co68, eo68⟩ := Kd.R_slice HO_391001.out; subst eo68))
  replace HO_9 := mk_ (Kd.S_drew HO_9.out)
  replace HO_10 := mk_ (Kd.R_drew HO_10.out)
  replace HO_391001 := mk_ (Kd.R_drew HO_391001.out)
  replace BK376 := mk_ (blk_drew BK376.out)
  replace BK390 := mk_ (blk_drew BK390.out)
  replace HI0 := mk_ (IsS117.drew HI0.out)
  replace HK := mk_ (keep_drew HK.out)
  replace HB := mk_ (below_drew1 HB.out)
  refine start_ (n := 12) (S := fun w' => w'.cell? ⟨gb390, 0, none⟩ = some (.int .i64 x391000_4) ∧ w'.cell? ⟨gb390, 1, none⟩ = some (.slice Ao68 x391001_4.length co68)) (ds := [11]) #[false, false, false, false, false, false, false, false, false, false, false, false] (by kernel_rfl) rfl rfl ⟨(blk_cell BK390.out 0).trans rfl, (blk_cell BK390.out 1).trans rfl⟩ (fun hHeld => ?_); refine with_tabW spec_l20Proof.tab16 spec_l20Proof.bits16 (fun HT_ HW_ => ?_)
  generalize w64.drew = w69 at HO_9 HO_10 HO_391001 BK376 BK390 HI0 HK HB hHeld ⊢
  refine pus_ 0 (some 75) (ao_ HT_) ?_
  refine pus_ 2 (some 77) (ao_ HT_) ?_
  refine pus_ 3 (some 78) (ao_ HT_) ?_
  refine pus_ 7 (some 82) (ao_ HT_) ?_
  refine tas_ 1 (some 76) (to_ HT_ HW_) hHeld ?_
  refine tas_ 4 (some 79) (to_ HT_ HW_) hHeld ?_
  refine pus_ 5 (some 80) (ao_ HT_) ?_
  refine ons_ 6 (some 81) (oo_ HT_) (fun K hK => ?_)
  refine goes_ Try.func60 (by kernel_rfl) rfl #[.pointer (some ⟨g, 0, none⟩), .int .i64 (x391001_4.length : Int)] (by rfl) rfl rfl gl_ ?_
  with_reducible refine (spec_l20Rd_pick.calls kj4 g s0_0 t402 (x391001_4.length : Int) t410 t411 w0 _ ?side1 ?side2 A58.out).mono ?_
  (case side1 => repeat (first | (with_reducible first | exact HI0.out | apply IsS117.alloc | apply IsS117.drewN | apply IsS117.drew | apply IsS117.set_1 | refine IsS117.far ?_ NB0_376.out _ | refine IsS117.far ?_ NB0_390.out _) | exact HI0.out))
  (case side2 => repeat (first | (with_reducible first | exact HB.out | apply below_alloc | apply pw_below_drewN | apply below_drew1 | refine below_set ?_ (IsS117.ge HI0.out) | refine below_set ?_ GE376.out | refine below_set ?_ GE390.out) | exact HB.out))
  rintro e w70 ⟨rfl, hi, hb, hk⟩
  refine ⟨_, rfl, ?_⟩
  replace HO_9 := mk_ (Kd.S_mono (Kd.S_keep (IsS117.apartS (show IsS117 w0 _ g s0_0 t402 from by repeat (first | (with_reducible first | exact HI0.out | apply IsS117.alloc | apply IsS117.drewN | apply IsS117.drew | apply IsS117.set_1 | refine IsS117.far ?_ NB0_376.out _ | refine IsS117.far ?_ NB0_390.out _) | exact HI0.out)) (Kd.S_below HO_9.out lt_) (by decide)) hk (fun _ h => h.2)) (fun _ h => h.1))
  replace HO_10 := mk_ (Kd.R_mono (Kd.R_keep (IsS117.apart (show IsS117 w0 _ g s0_0 t402 from by repeat (first | (with_reducible first | exact HI0.out | apply IsS117.alloc | apply IsS117.drewN | apply IsS117.drew | apply IsS117.set_1 | refine IsS117.far ?_ NB0_376.out _ | refine IsS117.far ?_ NB0_390.out _) | exact HI0.out)) (Kd.R_below HO_10.out lt_) (by decide)) hk (fun _ h => h.2)) (fun _ h => h.1))
  replace HO_391001 := mk_ (Kd.R_mono (Kd.R_keep (IsS117.apart (show IsS117 w0 _ g s0_0 t402 from by repeat (first | (with_reducible first | exact HI0.out | apply IsS117.alloc | apply IsS117.drewN | apply IsS117.drew | apply IsS117.set_1 | refine IsS117.far ?_ NB0_376.out _ | refine IsS117.far ?_ NB0_390.out _) | exact HI0.out)) (Kd.R_below HO_391001.out lt_) (by decide)) hk (fun _ h => h.2)) (fun _ h => h.1))
  replace BK376 := mk_ (KeepBut.blk hk (g' := gb376) (o := .cells #[.int .i64 0, .slice none 0 0] 51 (0, 0)) (bk_ BK376.out) NB376_0.out (by simp))
  replace BK390 := mk_ (KeepBut.blk hk (g' := gb390) (o := .cells #[.int .i64 x391000_4, .slice Ao68 x391001_4.length co68] 51 (0, 0)) (bk_ BK390.out) NB390_0.out (by simp))
  replace HK := mk_ (KeepBut.trans (by repeat (first | (with_reducible first | exact HK.out | apply KeepBut.set_ | apply keep_drewN | apply keep_drew | apply keep_alloc | refine keep_far ?_ GW376.out _ | refine keep_far ?_ GW390.out _) | exact HK.out)) hk (.inl rfl))
  replace HB := mk_ (hb)
  replace HI0 := mk_ (hi)
  (try clear hb)
  (try clear hb2)
  (try clear hk)
  (try clear hi)
  refine hK.out _ _ ⟨(blk_cell BK390.out 0).trans rfl, (blk_cell BK390.out 1).trans rfl⟩ (fun hHeld => ?_)
  clear hK K
  refine nor_ (some 81) ?_
  refine ons_ 8 (some 83) (oo_ HT_) (fun K hK => ?_)
  refine goes_ Try.func60 (by kernel_rfl) rfl #[.pointer (some ⟨g, 0, none⟩), .int .i64 5] (by rfl) rfl rfl gl_ ?_
  with_reducible refine (spec_l20Rd_pick.calls kj4 g s0_0 t411 5 t412 t413 w0 _ ?side1 ?side2 A59.out).mono ?_
  (case side1 => repeat (first | (with_reducible first | exact HI0.out | apply IsS117.alloc | apply IsS117.drewN | apply IsS117.drew | apply IsS117.set_1 | refine IsS117.far ?_ NB0_376.out _ | refine IsS117.far ?_ NB0_390.out _) | exact HI0.out))
  (case side2 => repeat (first | (with_reducible first | exact HB.out | apply below_alloc | apply pw_below_drewN | apply below_drew1 | refine below_set ?_ (IsS117.ge HI0.out) | refine below_set ?_ GE376.out | refine below_set ?_ GE390.out) | exact HB.out))
  rintro e w71 ⟨rfl, hi, hb, hk⟩
  refine ⟨_, rfl, ?_⟩
  replace HO_9 := mk_ (Kd.S_mono (Kd.S_keep (IsS117.apartS (show IsS117 w0 _ g s0_0 t411 from by repeat (first | (with_reducible first | exact HI0.out | apply IsS117.alloc | apply IsS117.drewN | apply IsS117.drew | apply IsS117.set_1 | refine IsS117.far ?_ NB0_376.out _ | refine IsS117.far ?_ NB0_390.out _) | exact HI0.out)) (Kd.S_below HO_9.out lt_) (by decide)) hk (fun _ h => h.2)) (fun _ h => h.1))
  replace HO_10 := mk_ (Kd.R_mono (Kd.R_keep (IsS117.apart (show IsS117 w0 _ g s0_0 t411 from by repeat (first | (with_reducible first | exact HI0.out | apply IsS117.alloc | apply IsS117.drewN | apply IsS117.drew | apply IsS117.set_1 | refine IsS117.far ?_ NB0_376.out _ | refine IsS117.far ?_ NB0_390.out _) | exact HI0.out)) (Kd.R_below HO_10.out lt_) (by decide)) hk (fun _ h => h.2)) (fun _ h => h.1))
  replace HO_391001 := mk_ (Kd.R_mono (Kd.R_keep (IsS117.apart (show IsS117 w0 _ g s0_0 t411 from by repeat (first | (with_reducible first | exact HI0.out | apply IsS117.alloc | apply IsS117.drewN | apply IsS117.drew | apply IsS117.set_1 | refine IsS117.far ?_ NB0_376.out _ | refine IsS117.far ?_ NB0_390.out _) | exact HI0.out)) (Kd.R_below HO_391001.out lt_) (by decide)) hk (fun _ h => h.2)) (fun _ h => h.1))
  replace BK376 := mk_ (KeepBut.blk hk (g' := gb376) (o := .cells #[.int .i64 0, .slice none 0 0] 51 (0, 0)) (bk_ BK376.out) NB376_0.out (by simp))
  replace BK390 := mk_ (KeepBut.blk hk (g' := gb390) (o := .cells #[.int .i64 x391000_4, .slice Ao68 x391001_4.length co68] 51 (0, 0)) (bk_ BK390.out) NB390_0.out (by simp))
  replace HK := mk_ (KeepBut.trans (by repeat (first | (with_reducible first | exact HK.out | apply KeepBut.set_ | apply keep_drewN | apply keep_drew | apply keep_alloc | refine keep_far ?_ GW376.out _ | refine keep_far ?_ GW390.out _) | exact HK.out)) hk (.inl rfl))
  replace HB := mk_ (hb)
  replace HI0 := mk_ (hi)
  (try clear hb)
  (try clear hb2)
  (try clear hk)
  (try clear hi)
  have p62 : 0 ≤ (t410 : Int) := oa_
  have q62 : (t410 : Int) < ((x391001_4.length : Int) : Int) := oa_
  obtain ⟨go62, co62, eo62, gb62, gl62, cl62, HG62⟩ := Kd.R_form HO_391001.out (by omega)
  (first | cases eo62 | (injection eo62 with ea_ en_ ec_; (first | subst ea_ | (injection ea_ with ea_; subst ea_)); subst ec_; clear en_))
  have GB62 := mk_ gb62
  have GG62 := mk_ HG62
  clear gb62 gl62 HG62
  obtain ⟨ce62, hcl62, hM62, hcc62, hfr62⟩ := Kd.R_elem HO_391001.out z93 (t410 : Int) p62 q62
  obtain rfl := k93_openM hM62
  have hx62_0 : World.cell? _ ⟨go62, (t410 : Int).toNat * 3, none⟩ = some (.int .i64 ((rd_T93 x391001_4 t410).f0)) := hcc62 0 _ rfl
  have hx62_1 : World.cell? _ ⟨go62, (t410 : Int).toNat * 3 + 1, none⟩ = some (.int .i64 ((rd_T93 x391001_4 t410).f1)) := hcc62 1 _ rfl
  have hx62_2 : World.cell? _ ⟨go62, (t410 : Int).toNat * 3 + 2, none⟩ = some (.int .i64 ((rd_T93 x391001_4 t410).f2)) := hcc62 2 _ rfl
  have hf62_0 : World.frozen? _ ⟨go62, (t410 : Int).toNat * 3, none⟩ = false := hfr62 0
  have hf62_1 : World.frozen? _ ⟨go62, (t410 : Int).toNat * 3 + 1, none⟩ = false := hfr62 1
  have hf62_2 : World.frozen? _ ⟨go62, (t410 : Int).toNat * 3 + 2, none⟩ = false := hfr62 2
  (try clear hM62); clear hcl62 hcc62 hfr62
  replace p62 := eq_true p62
  replace q62 := eq_true q62
  have HN0_go62 := mk_ (show g ≠ go62 from by have h_ := IsS117.own_ne HI0.out HO_391001.out (by decide); intro e_; exact h_ (by rw [e_]; rfl))
  obtain ⟨ce72, hcl72, hM72, hcc72, hfr72⟩ := Kd.R_elem HO_391001.out z93 (t410 : Int) (oa_) (by have h_ : (t410 : Int) < ((x391001_4.length : Int) : Int) := oa_; first | exact h_ | (have e_ := (Kd.R_reads' HO_391001.out).1; omega) | simpa using h_)
  obtain rfl := k93_openM hM72
  have HP72 := (Kd.R_seg HO_391001.out (t410 : Int) (oa_) (by have h_ : (t410 : Int) < ((x391001_4.length : Int) : Int) := oa_; first | exact h_ | (have e_ := (Kd.R_reads' HO_391001.out).1; omega) | simpa using h_) (seg := [.int .i64 t412]) (j := 0) hcl72 hcc72 (show 1 ≤ 3 from by decide) (x' := (⟨t412, (rd_T93 x391001_4 t410).f1, (rd_T93 x391001_4 t410).f2⟩ : S93)) (k93_mkM _ _ _ (⟨t412, (rd_T93 x391001_4 t410).f1, (rd_T93 x391001_4 t410).f2⟩ : S93) ) (fun _ hk => hk)).1
  rw [← Ny414.out] at HP72
  have HQ72 := mk_ HP72
  (try clear hM72); clear hcl72 hcc72 hfr72 HP72
  refine hK.out _ _ ⟨(blk_cell BK390.out 0).trans rfl, (blk_cell BK390.out 1).trans rfl⟩ (fun hHeld => ?_)
  clear hK K
  refine nor_ (some 83) ?_
  refine pus_ 9 (some 84) (ao_ HT_) ?_
  refine pus_ 10 (some 85) (ao_ HT_) ?_
  refine last_ (i := 11) (N := none) #[true, true, true, true, true, true, true, true, true, true, true, true] rfl rfl (one_of HT_.out (by kernel_rfl)) (by decide) (fun K hK => ?_)
  refine skip_ (w1 := ?_) (by rfl) rfl ?_ ?_
  rotate_left
  ·go_simp
   rfl
  refine hK.out _ _ ?_
  clear hK K
  refine done_ (done_of HT_.out (by kernel_rfl)) ?_
  have n0_ : Aside0 (Kd.S k38 38 (w71.setCell ⟨go62, (t410 : Int).toNat * 3, none⟩ (.int .i64 t412)) w.heap.size (fun k_ => some k_ ≠ (u10 : Value).ownBlock) (.slice Ao8 t378.length co8) t378) := ⟨by (with_reducible repeat (first | apply Kd.S_alloc | apply Kd.S_drewN | apply Kd.S_drew)); exact Kd.S_mono (Kd.S_far (p := ⟨go62, (t410 : Int).toNat * 3, none⟩) (Kd.S_types HO_9.out GG62.out (by decide)) (fun _ hk => hk.2) (.int .i64 t412)) (fun _ hk => hk.1)⟩
  have n1_ : Aside0 (Kd.R k47 47 (w71.setCell ⟨go62, (t410 : Int).toNat * 3, none⟩ (.int .i64 t412)) w.heap.size (fun _ => True) u10 x10_4) := ⟨by (with_reducible repeat (first | apply Kd.R_alloc | apply Kd.R_drewN | apply Kd.R_drew)); exact Kd.R_mono (Kd.R_far (p := ⟨go62, (t410 : Int).toNat * 3, none⟩) (Kd.R_types HO_10.out GG62.out (by decide)) (fun _ hk => hk.2) (.int .i64 t412)) (fun _ hk => trivial)⟩
  have n2_ : Aside0 (Kd.R k93 93 (w71.setCell ⟨go62, (t410 : Int).toNat * 3, none⟩ (.int .i64 t412)) w.heap.size (fun _ => True) (.slice (some ⟨go62, 0, none⟩) x391001_4.length co68) y414) := ⟨by exact HQ72.out⟩
  have n3_ : Aside0 ((w71.setCell ⟨go62, (t410 : Int).toNat * 3, none⟩ (.int .i64 t412)).heap[gb376]? = some (.cells #[.int .i64 0, .slice none 0 0] 51 (0, 0))) := ⟨by refine bs_ ?_; refine blk_far ?_ (by have h_ := Kd.R_ne HO_391001.out BK376.out (by decide); intro e_; exact h_ (by rw [e_]; rfl)) _; refine bs_ ?_; exact BK376.out⟩
  have n4_ : Aside0 ((w71.setCell ⟨go62, (t410 : Int).toNat * 3, none⟩ (.int .i64 t412)).heap[gb390]? = some (.cells #[.int .i64 x391000_4, .slice (some ⟨go62, 0, none⟩) x391001_4.length co68] 51 (0, 0))) := ⟨by refine bs_ ?_; refine blk_far ?_ (by have h_ := Kd.R_ne HO_391001.out BK390.out (by decide); intro e_; exact h_ (by rw [e_]; rfl)) _; refine bs_ ?_; exact BK390.out⟩
  have n5_ : Aside0 (IsS117 w0 (w71.setCell ⟨go62, (t410 : Int).toNat * 3, none⟩ (.int .i64 t412)) g s0_0 t413) := ⟨by repeat (first | (with_reducible first | exact HI0.out | apply IsS117.alloc | apply IsS117.drewN | apply IsS117.drew | apply IsS117.set_1 | refine IsS117.far ?_ HN0_go62.out _ | refine IsS117.far ?_ NB0_376.out _ | refine IsS117.far ?_ NB0_390.out _) | exact HI0.out)⟩
  have n6_ : Aside0 (KeepBut w (w71.setCell ⟨go62, (t410 : Int).toNat * 3, none⟩ (.int .i64 t412)) g none) := ⟨by repeat (first | (with_reducible first | exact HK.out | apply KeepBut.set_ | apply keep_drewN | apply keep_drew | apply keep_alloc | refine keep_far ?_ GB62.out _ | refine keep_far ?_ GW376.out _ | refine keep_far ?_ GW390.out _) | exact HK.out)⟩
  have n7_ : Aside0 (Below w0.heap.size w0 (w71.setCell ⟨go62, (t410 : Int).toNat * 3, none⟩ (.int .i64 t412))) := ⟨by repeat (first | (with_reducible first | exact HB.out | apply below_alloc | apply pw_below_drewN | apply below_drew1 | refine below_set ?_ (Nat.le_trans HL.out GB62.out) | refine below_set ?_ (IsS117.ge HI0.out) | refine below_set ?_ GE376.out | refine below_set ?_ GE390.out) | exact HB.out)⟩
  (try clear HO_9)
  (try clear HO_10)
  (try clear HO_391001)
  (try clear BK376)
  (try clear BK390)
  (try clear HI0)
  (try clear HK)
  (try clear HB)
  generalize (w71.setCell ⟨go62, (t410 : Int).toNat * 3, none⟩ (.int .i64 t412)) = w73 at n0_ n1_ n2_ n3_ n4_ n5_ n6_ n7_ ⊢
  have HO_9 := n0_
  have HO_10 := n1_
  have HO_391001 := n2_
  have BK376 := n3_
  have BK390 := n4_
  have HI0 := n5_
  have HK := n6_
  have HB := n7_
  clear n0_ n1_ n2_ n3_ n4_ n5_ n6_ n7_
  try go_wp2
  replace HO_9 := mk_ (Kd.S_drew HO_9.out)
  replace HO_10 := mk_ (Kd.R_drew HO_10.out)
  replace HO_391001 := mk_ (Kd.R_drew HO_391001.out)
  replace BK376 := mk_ (blk_drew BK376.out)
  replace BK390 := mk_ (blk_drew BK390.out)
  replace HI0 := mk_ (IsS117.drew HI0.out)
  replace HK := mk_ (keep_drew HK.out)
  replace HB := mk_ (below_drew1 HB.out)
  refine start_ (n := 8) (S := fun w' => w'.cell? ⟨gb390, 0, none⟩ = some (.int .i64 x391000_4) ∧ w'.cell? ⟨gb390, 1, none⟩ = some (.slice (some ⟨go62, 0, none⟩) x391001_4.length co68)) (ds := []) #[false, false, false, false, false, false, false, false] (by kernel_rfl) rfl rfl ⟨(blk_cell BK390.out 0).trans rfl, (blk_cell BK390.out 1).trans rfl⟩ (fun hHeld => ?_); refine with_tabW spec_l20Proof.tab17 spec_l20Proof.bits17 (fun HT_ HW_ => ?_)
  generalize w73.drew = w74 at HO_9 HO_10 HO_391001 BK376 HI0 HK HB hHeld ⊢
  refine pus_ 0 (some 86) (ao_ HT_) ?_
  refine pus_ 1 (some 87) (ao_ HT_) ?_
  refine pus_ 2 (some 88) (ao_ HT_) ?_
  refine pus_ 4 (some 4) (ao_ HT_) ?_
  refine pus_ 5 (some 5) (ao_ HT_) ?_
  refine pus_ 6 (some 6) (ao_ HT_) ?_
  refine tas_ 3 (some 89) (to_ HT_ HW_) hHeld ?_
  refine ons_ 7 none (oo_ HT_) (fun K hK => ?_)
  have hs75 : w74.cell? ⟨gb376, 0, none⟩ = some (.int .i64 0) := (blk_cell BK376.out 0).trans rfl
  have hfs75 := blk_frozen BK376.out 0
  have hns75_1 := NB390_376.out
  have hms75_1 := NB376_390.out
  have hs76 : w74.cell? ⟨gb376, 1, none⟩ = some (.slice none 0 0) := (blk_cell BK376.out 1).trans rfl
  have hfs76 := blk_frozen BK376.out 1
  have hns76_1 := NB390_376.out
  have hms76_1 := NB376_390.out
  refine skip_ (w1 := ?_) (by rfl) rfl ?_ ?_
  rotate_left
  ·go_simp
   rfl
  refine hK.out _ _ ⟨((cell_far (p := ⟨gb376, _, none⟩) NB390_376.out _).trans (((cell_far (p := ⟨gb376, _, none⟩) NB390_376.out _).trans (hHeld.1)))), ((cell_far (p := ⟨gb376, _, none⟩) NB390_376.out _).trans (((cell_far (p := ⟨gb376, _, none⟩) NB390_376.out _).trans (hHeld.2))))⟩ (fun hHeld => ?_)
  clear hK K
  refine done_ (done_of HT_.out (by kernel_rfl)) ?_
  try go_wp2
  refine bodyPost_ret (results_list (rs := [.tmp 4, .tmp 5, .tmp 6, .cell 7 51]) rfl (by simp) (.tmp (.tmp (.tmp (.cell gb376 51 #[.int .i64 x391000_4, .slice (some ⟨go62, 0, none⟩) x391001_4.length co68] (0, 0) _ rfl (by refine bs_ ?_; refine blk_put (cs := #[.int .i64 x391000_4, .slice none 0 0]) ?_ 1 _ rfl; refine bs_ ?_; refine blk_put (cs := #[.int .i64 0, .slice none 0 0]) ?_ 0 _ rfl; refine bs_ ?_; exact BK376.out) Try.underlying51 rfl (by kernel_rfl) .nil))))) rfl ?_
  exact ⟨_, _, _, er_, by (with_reducible repeat (first | apply Kd.S_alloc | apply Kd.S_drewN | apply Kd.S_drew)); exact Kd.S_mono (Kd.S_far (p := ⟨gb376, 1, none⟩) (Kd.S_far (p := ⟨gb376, 0, none⟩) (Kd.S_types HO_9.out BK376.out (by decide)) (fun _ hk => hk.2) (.int .i64 x391000_4)) (fun _ hk => hk.2) (.slice (some ⟨go62, 0, none⟩) x391001_4.length co68)) (fun _ hk => hk.1), by (with_reducible repeat (first | apply Kd.R_alloc | apply Kd.R_drewN | apply Kd.R_drew)); exact Kd.R_mono (Kd.R_far (p := ⟨gb376, 1, none⟩) (Kd.R_far (p := ⟨gb376, 0, none⟩) (Kd.R_types HO_10.out BK376.out (by decide)) (fun _ hk => hk.2) (.int .i64 x391000_4)) (fun _ hk => hk.2) (.slice (some ⟨go62, 0, none⟩) x391001_4.length co68)) (fun _ hk => trivial), by (with_reducible repeat (first | apply Kd.R_alloc | apply Kd.R_drewN | apply Kd.R_drew)); exact Kd.R_mono (Kd.R_far (p := ⟨gb376, 1, none⟩) (Kd.R_far (p := ⟨gb376, 0, none⟩) (Kd.R_types HO_391001.out BK376.out (by decide)) (fun _ hk => hk.2) (.int .i64 x391000_4)) (fun _ hk => hk.2) (.slice (some ⟨go62, 0, none⟩) x391001_4.length co68)) (fun _ hk => trivial), by repeat (first | (with_reducible first | exact HI0.out | apply IsS117.alloc | apply IsS117.drewN | apply IsS117.drew | apply IsS117.set_1 | refine IsS117.far ?_ NB0_376.out _ | refine IsS117.far ?_ NB0_390.out _) | exact HI0.out), by repeat (first | (with_reducible first | exact HB.out | apply below_alloc | apply pw_below_drewN | apply below_drew1 | refine below_set ?_ (IsS117.ge HI0.out) | refine below_set ?_ GE376.out | refine below_set ?_ GE390.out) | exact HB.out), by repeat (first | (with_reducible first | exact HK.out | apply KeepBut.set_ | apply keep_drewN | apply keep_drew | apply keep_alloc | refine keep_far ?_ GW376.out _ | refine keep_far ?_ GW390.out _) | exact HK.out)⟩
end Go.Proofs.Ytcaogllnbpmcgaa.P

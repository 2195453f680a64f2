/- Go's functions come to just the answers of the Lean functions told here. -/
import Derived.Test.YtcaogllnbpmcgaaDoorPx8
namespace Go.Proofs.YtcaogllnbpmcgaaDoor.P
open Go.RowKit Go.Proofs.YtcaogllnbpmcgaaDoorW.PrintWords Go.Proofs.YtcaogllnbpmcgaaDoorW.PrintLast Go.Proofs.YtcaogllnbpmcgaaDoorW.PrintMore
attribute [local go_sem] max2_int min2_int max_two min_two max_three min_three max_four min_four
set_option linter.unusedVariables false
set_option linter.unusedSimpArgs false
mutual
def spec_l20Proof.j0 : Nat → Int → Int → List (S79) → List (S82) → List Int → Int → Int → List (S68) → Option (Int × (List (S79)) × (List (S82)) × Int × (List (S68)) × Int)
 | 0, _, _, _, _, _, _, _, _ => none
 | k + 1, x1, x8, x9, x10, x1000, x1001, x306000, x306001 => (spec_l20Rd_odd.f k x1000 x1001 x1).bind fun bt314 => (if bt314.1 = true then ((spec_l20Rd_pick.f k x1000 bt314.2 4).bind fun bt316 => (if bt316.1 = 0 then ((spec_l20Rd_pick.f k x1000 bt316.2 4).bind fun bt318 => (spec_l20Proof.j1 k x8 x9 x10 x1000 bt318.2 (wrap64 (bt318.1 - 3)) x306001)) else (if bt316.1 = 1 then ((spec_l20Rd_pick.f k x1000 bt316.2 4).bind fun bt320 => (if x306001.length < 5864062014805 then (spec_l20Proof.j1 k x8 x9 x10 x1000 bt320.2 x306000 (x306001 ++ [(⟨bt320.1, (-1), (-2)⟩ : S68)])) else (none))) else (if bt316.1 = 2 then (if (x306001.length : Int) > 0 then ((spec_l20Rd_pick.f k x1000 bt316.2 (x306001.length : Int)).bind fun bt325 => ((spec_l20Rd_pick.f k x1000 bt325.2 5).bind fun bt327 => (if 0 ≤ bt325.1 then (if bt325.1 < (x306001.length : Int) then (spec_l20Proof.j1 k x8 x9 x10 x1000 bt327.2 x306000 (x306001.set (bt325.1 : Int).toNat (⟨bt327.1, (rd_T68 x306001 bt325.1).f1, (rd_T68 x306001 bt325.1).f2⟩ : S68))) else (none)) else (none)))) else (spec_l20Proof.j1 k x8 x9 x10 x1000 bt316.2 x306000 x306001)) else (if (x306001.length : Int) > 0 then ((spec_l20Rd_pick.f k x1000 bt316.2 5).bind fun bt330 => (if 0 < (x306001.length : Int) then (spec_l20Proof.j1 k x8 x9 x10 x1000 bt330.2 x306000 (x306001.set (0 : Int).toNat (⟨(rd_T68 x306001 0).f0, wrap64 (bt330.1 - 3), (rd_T68 x306001 0).f2⟩ : S68))) else (none))) else (spec_l20Proof.j1 k x8 x9 x10 x1000 bt316.2 x306000 x306001)))))) else (spec_l20Proof.j1 k x8 x9 x10 x1000 bt314.2 x306000 x306001))
def spec_l20Proof.j1 : Nat → Int → List (S79) → List (S82) → List Int → Int → Int → List (S68) → Option (Int × (List (S79)) × (List (S82)) × Int × (List (S68)) × Int)
 | 0, _, _, _, _, _, _, _ => none
 | k + 1, x8, x9, x10, x1000, x1001, x306000, x306001 => some (x8, x9, x10, x306000, x306001, x1001)
end
def spec_l20Proof.f (k : Nat) (s0_0 : List Int) (s0_1 : Int) (a1 : Int) : Option (Int × (List (S79)) × (List (S82)) × Int × (List (S68)) × Int) := (spec_l20Proved.f k s0_0 s0_1).bind fun bt292 => ((spec_FindProof.f k bt292.1 bt292.2.1 bt292.2.2.1).bind fun bt300 => (if bt300.2.2 = true then (spec_l20Proof.j0 k a1 bt292.1 bt292.2.1 bt292.2.2.1 s0_0 bt292.2.2.2 bt300.1 bt300.2.1) else ((some (([(⟨1, 0⟩ : S82)] : List (S82)) : List (S82))).bind fun y306 => ((spec_FindProof.f k bt292.1 bt292.2.1 y306).bind fun bt309 => (spec_l20Proof.j0 k a1 bt292.1 bt292.2.1 y306 s0_0 bt292.2.2.2 bt309.1 bt309.2.1)))))
def spec_l20Proof.T9 : Bool × List (List Nat × List Nat) := (true, [([], []), ([0], [0]), ([], []), ([2], [2]), ([3], [3]), ([1, 0, 1, 2, 3, 4], [1]), ([5, 0, 1, 2, 3, 4], [5]), ([6, 4, 3, 0, 1, 2, 3, 4], [4, 6])])
def spec_l20Proof.B9 : List Nat := [0, 1, 0, 4, 12, 31, 63, 127]
theorem spec_l20Proof.tab9 : rtab .any (opsOf Tryd.f29 9) = spec_l20Proof.T9 := by kernel_rfl
theorem spec_l20Proof.bits9 : waitsOk spec_l20Proof.T9.2 spec_l20Proof.B9 = true := by kernel_rfl
def spec_l20Proof.T13 : Bool × List (List Nat × List Nat) := (true, [([], []), ([0], [0]), ([], []), ([2], [2]), ([3], [3]), ([4], [4]), ([1, 5, 3], [1, 5]), ([0, 1, 2, 3, 4, 5, 6], []), ([7, 6, 6, 0, 1, 2, 3, 4, 5, 6], [6, 7])])
def spec_l20Proof.B13 : List Nat := [0, 1, 0, 4, 12, 28, 63, 127, 255]
theorem spec_l20Proof.tab13 : rtab .any (opsOf Tryd.f29 13) = spec_l20Proof.T13 := by kernel_rfl
theorem spec_l20Proof.bits13 : waitsOk spec_l20Proof.T13.2 spec_l20Proof.B13 = true := by kernel_rfl
def spec_l20Proof.T16 : Bool × List (List Nat × List Nat) := (true, [([], []), ([0], [0]), ([], []), ([], []), ([3], [3]), ([4], [4]), ([2, 5], [2, 5]), ([], []), ([7, 6], [7]), ([1, 6, 0, 1, 2, 3, 4, 5, 6, 7, 8], [1, 6]), ([9, 0, 1, 2, 3, 4, 5, 6, 7, 8], [9]), ([10, 8, 8, 0, 1, 2, 3, 4, 5, 6, 7, 8], [8, 10])])
def spec_l20Proof.B16 : List Nat := [0, 1, 0, 0, 8, 24, 60, 0, 252, 511, 1023, 2047]
theorem spec_l20Proof.tab16 : rtab .any (opsOf Tryd.f29 16) = spec_l20Proof.T16 := by kernel_rfl
theorem spec_l20Proof.bits16 : waitsOk spec_l20Proof.T16.2 spec_l20Proof.B16 = true := by kernel_rfl
def spec_l20Proof.T17 : Bool × List (List Nat × List Nat) := (true, [([], []), ([], []), ([], []), ([], []), ([0, 0], [0]), ([1, 4, 0, 1, 4], [1]), ([2, 5, 0, 1, 2, 4, 5], [2]), ([3, 6, 0, 1, 2, 3, 4, 5, 6], [3])])
def spec_l20Proof.B17 : List Nat := [0, 0, 0, 0, 1, 19, 55, 127]
theorem spec_l20Proof.tab17 : rtab .any (opsOf Tryd.f29 17) = spec_l20Proof.T17 := by kernel_rfl
theorem spec_l20Proof.bits17 : waitsOk spec_l20Proof.T17.2 spec_l20Proof.B17 = true := by kernel_rfl
set_option maxHeartbeats 8000000 in
set_option maxRecDepth 100000 in
theorem spec_l20Proof.calls (k : Nat) (g : Nat) (s0_0 : List Int) (s0_1 : Int) (a1 : Int) (r1 : Int) (r2 : List (S79)) (r3 : List (S82)) (r4 : Int) (r5 : List (S68)) (r6 : Int) (w0 w : World) (hI : IsS99 w0 w g s0_0 s0_1) (hB : Below w0.heap.size w0 w) (h : spec_l20Proof.f k s0_0 s0_1 a1 = some (r1, r2, r3, r4, r5, r6)) :
  Calls Tryd.prog 29 #[.pointer (some ⟨g, 0, none⟩), .int .i64 a1] w fun e w' => ∃ v1_ v2_ v4_ : Value, e = .returned (.tuple #[.int .i64 r1, v1_, v2_, .agg #[.int .i64 r4, v4_]]) ∧ Kd.S k79 79 w' w.heap.size (fun k_ => some k_ ≠ (v2_ : Value).ownBlock) v1_ r2 ∧ Kd.R k82 82 w' w.heap.size (fun _ => True) v2_ r3 ∧ Kd.R k68 68 w' w.heap.size (fun _ => True) v4_ r5 ∧ IsS99 w0 w' g s0_0 r6 ∧ Below w0.heap.size w0 w' ∧ KeepBut w w' g none := by
 have hu27 := Tryd.underlying27
 have hu82 := Tryd.underlying82
 have hu68 := Tryd.underlying68
 have HI0 := mk_ hI
 have HK := mk_ (KeepBut.refl w g none)
 have HL := mk_ hB.size
 clear hI
 have HW0 := mk_ hB.size
 have HB := mk_ hB
 clear hB
 unfold spec_l20Proof.f at h
 have H := h
 clear h
 replace H := bm_ H; obtain ⟨⟨t292, t293, t296, t299⟩, A3, H⟩ := H
 try dsimp only at H
 replace H := bm_ H; obtain ⟨⟨t300, t301, t304⟩, A4, H⟩ := H
 try dsimp only at H
 have HC5 := mk_ H
 clear H
 go_enter Tryd.func29, Tryd.ntmps29
 go_upto_if 27 with (first | (refine gx_ 7 #[.int .i64 0, .slice none 0 0] 27 ?_; intro gb291 hg w6 hbox hb; replace HB := mk_ (below_step (below_at HB.out) hb); have BK291 := mk_ (hbox); have GW291 := mk_ ((by rw [hg]; exact (keep_size (w := w) (g := g) (row := none) (keep_at HK.out)) : w.heap.size ≤ gb291)); have GE291 := mk_ ((Nat.le_trans HW0.out (by rw [hg]; exact (keep_size (w := w) (g := g) (row := none) (keep_at HK.out)) : w.heap.size ≤ gb291) : w0.heap.size ≤ gb291)); replace HK := mk_ (KeepBut.trans (keep_at HK.out) (KeepBut.of_below hb g none) (.inl rfl)); have NB0_291 := mk_ ((by rw [hg]; exact Nat.ne_of_lt (IsS99.lt (show IsS99 w0 _ g s0_0 s0_1 from IsS99.below HI0.out lt_)) : g ≠ gb291)); have NB291_0 := mk_ ((by rw [hg]; exact Nat.ne_of_gt (IsS99.lt (show IsS99 w0 _ g s0_0 s0_1 from IsS99.below HI0.out lt_)) : gb291 ≠ g)); replace HI0 := mk_ (IsS99.below (IsS99.below HI0.out lt_) hb); clear hb hbox hg) | (refine gc_ 53 (some 15) Tryd.func53 #[.pointer (some ⟨g, 0, none⟩)] ?_; (with_reducible refine (spec_l20Proved.calls k g s0_0 s0_1 t292 t293 t296 t299 w0 _ ?side1 ?side2 A3.out).mono ?_); (case side1 => repeat (first | (with_reducible first | exact HI0.out | apply IsS99.alloc | apply IsS99.drewN | apply IsS99.drew | apply IsS99.set_1 | refine IsS99.far ?_ NB0_291.out _) | exact HI0.out)); (case side2 => repeat (first | (with_reducible first | exact HB.out | apply below_alloc | apply pw_below_drewN | apply below_drew1 | refine below_set ?_ (IsS99.ge HI0.out) | refine below_set ?_ GE291.out) | exact HB.out)); rintro e w7 ⟨v294, v297, rfl, ho0, ho1, hi, hb, hk⟩; refine ⟨_, rfl, ?_⟩; replace BK291 := mk_ (KeepBut.blk hk (g' := gb291) (o := .cells #[.int .i64 0, .slice none 0 0] 27 (0, 0)) (bk_ BK291.out) NB291_0.out (by simp)); have HO295 := mk_ (Kd.S_lower ho0 (keep_size (w := w) (g := g) (row := none) (by repeat (first | (with_reducible first | exact HK.out | apply KeepBut.set_ | apply keep_drewN | apply keep_drew | apply keep_alloc | refine keep_far ?_ GW291.out _) | exact HK.out)))); have HO298 := mk_ (Kd.R_lower ho1 (keep_size (w := w) (g := g) (row := none) (by repeat (first | (with_reducible first | exact HK.out | apply KeepBut.set_ | apply keep_drewN | apply keep_drew | apply keep_alloc | refine keep_far ?_ GW291.out _) | exact HK.out)))); replace HK := mk_ (KeepBut.trans (by repeat (first | (with_reducible first | exact HK.out | apply KeepBut.set_ | apply keep_drewN | apply keep_drew | apply keep_alloc | refine keep_far ?_ GW291.out _) | exact HK.out)) hk (.inl rfl)); replace HB := mk_ (hb); replace HI0 := mk_ (hi); (try clear hb); (try clear ho0); (try clear ho1); obtain ⟨Ao8, co8, eo8⟩ := Kd.S_slice HO295.out; subst eo8; obtain ⟨Ao9, co9, eo9⟩ := Kd.R_slice HO298.out; subst eo9) | (refine gc_ 54 (some 23) Tryd.func54 #[.int .i64 t292, .slice Ao8 t293.length co8, .slice Ao9 t296.length co9] ?_; (with_reducible refine (spec_FindProof.calls k t292 _ _ t293 _ _ t296 t300 t301 t304 _ ?side1 ?side2 ?side3 ?side4 A4.out).mono ?_); (case side1 => exact Kd.C_below (Kd.S_reads' HO295.out).2.2 lt_); (case side2 => exact (Kd.S_reads' HO295.out).2.1); (case side3 => exact Kd.C_below (Kd.R_reads' HO298.out).2.2 lt_); (case side4 => exact (Kd.R_reads' HO298.out).2.1); rintro e w10 ⟨v302, rfl, ho0, hb⟩; refine ⟨_, rfl, ?_⟩; replace HO295 := mk_ (Kd.S_below (Kd.S_below HO295.out lt_) hb); replace HO298 := mk_ (Kd.R_below (Kd.R_below HO298.out lt_) hb); have HO303 := mk_ (Kd.R_lower ho0 (keep_size (w := w) (g := g) (row := none) (by repeat (first | (with_reducible first | exact HK.out | apply KeepBut.set_ | apply keep_drewN | apply keep_drew | apply keep_alloc | refine keep_far ?_ GW291.out _) | exact HK.out)))); replace BK291 := mk_ (blk_below (g := gb291) (o := .cells #[.int .i64 0, .slice none 0 0] 27 (0, 0)) (bk_ BK291.out) hb); replace HK := mk_ (KeepBut.trans (by repeat (first | (with_reducible first | exact HK.out | apply KeepBut.set_ | apply keep_drewN | apply keep_drew | apply keep_alloc | refine keep_far ?_ GW291.out _) | exact HK.out)) (KeepBut.of_below hb g none) (.inl rfl)); replace HB := mk_ (below_step (by repeat (first | (with_reducible first | exact HB.out | apply below_alloc | apply pw_below_drewN | apply below_drew1 | refine below_set ?_ (IsS99.ge HI0.out) | refine below_set ?_ GE291.out) | exact HB.out)) hb); replace HI0 := mk_ (IsS99.below (by repeat (first | (with_reducible first | exact HI0.out | apply IsS99.alloc | apply IsS99.drewN | apply IsS99.drew | apply IsS99.set_1 | refine IsS99.far ?_ NB0_291.out _) | exact HI0.out)) hb); (try clear hb); (try clear ho0)) | (refine gx_ 11 #[.int .i64 0, .slice none 0 0] 27 ?_; intro gb305 hg w11 hbox hb; replace HO295 := mk_ (Kd.S_below (Kd.S_below HO295.out lt_) hb); replace HO298 := mk_ (Kd.R_below (Kd.R_below HO298.out lt_) hb); replace HO303 := mk_ (Kd.R_below (Kd.R_below HO303.out lt_) hb); replace HB := mk_ (below_step (by repeat (first | (with_reducible first | exact HB.out | apply below_alloc | apply pw_below_drewN | apply below_drew1 | refine below_set ?_ (IsS99.ge HI0.out) | refine below_set ?_ GE291.out) | exact HB.out)) hb); have BK305 := mk_ (hbox); have GW305 := mk_ ((by rw [hg]; exact (keep_size (w := w) (g := g) (row := none) (by repeat (first | (with_reducible first | exact HK.out | apply KeepBut.set_ | apply keep_drewN | apply keep_drew | apply keep_alloc | refine keep_far ?_ GW291.out _) | exact HK.out))) : w.heap.size ≤ gb305)); have GE305 := mk_ ((Nat.le_trans HW0.out (by rw [hg]; exact (keep_size (w := w) (g := g) (row := none) (by repeat (first | (with_reducible first | exact HK.out | apply KeepBut.set_ | apply keep_drewN | apply keep_drew | apply keep_alloc | refine keep_far ?_ GW291.out _) | exact HK.out))) : w.heap.size ≤ gb305) : w0.heap.size ≤ gb305)); replace HK := mk_ (KeepBut.trans (by repeat (first | (with_reducible first | exact HK.out | apply KeepBut.set_ | apply keep_drewN | apply keep_drew | apply keep_alloc | refine keep_far ?_ GW291.out _) | exact HK.out)) (KeepBut.of_below hb g none) (.inl rfl)); have NB291_305 := nl_ hg BK291.out; have NB305_291 := ng_ hg BK291.out; replace BK291 := mk_ (blk_below (g := gb291) (o := .cells #[.int .i64 0, .slice none 0 0] 27 (0, 0)) (bk_ BK291.out) hb); have NB0_305 := mk_ ((by rw [hg]; exact Nat.ne_of_lt (IsS99.lt (show IsS99 w0 _ g s0_0 t299 from by repeat (first | (with_reducible first | exact HI0.out | apply IsS99.alloc | apply IsS99.drewN | apply IsS99.drew | apply IsS99.set_1 | refine IsS99.far ?_ NB0_291.out _) | exact HI0.out))) : g ≠ gb305)); have NB305_0 := mk_ ((by rw [hg]; exact Nat.ne_of_gt (IsS99.lt (show IsS99 w0 _ g s0_0 t299 from by repeat (first | (with_reducible first | exact HI0.out | apply IsS99.alloc | apply IsS99.drewN | apply IsS99.drew | apply IsS99.set_1 | refine IsS99.far ?_ NB0_291.out _) | exact HI0.out))) : gb305 ≠ g)); replace HI0 := mk_ (IsS99.below (by repeat (first | (with_reducible first | exact HI0.out | apply IsS99.alloc | apply IsS99.drewN | apply IsS99.drew | apply IsS99.set_1 | refine IsS99.far ?_ NB0_291.out _) | exact HI0.out)) hb); clear hb hbox hg; have hnb12 := NB305_291.out; have hnc12 := NB291_305.out; have hnb13 := NB305_0.out; have hnc13 := NB0_305.out; have hcz14_0 : w11.cell? ⟨gb305, 0, none⟩ = some (.int .i64 0) := (blk_cell BK305.out 0).trans rfl; have hcz14_1 : w11.cell? ⟨gb305, 1, none⟩ = some (.slice none 0 0) := (blk_cell BK305.out 1).trans rfl; have hfz14_0 := blk_frozen BK305.out 0; have hfz14_1 := blk_frozen BK305.out 1; obtain ⟨Ao15, co15, eo15⟩ := Kd.R_slice HO303.out; subst eo15))
 (try simp only [Act.put, z0_, z1_, z2_])
 go_cut [10] (fun v10 wc => ∃ (kq : Nat) (x10_4 : List (S82)) (x306000_4 : Int) (x306001_4 : List (S68)) (u306001 : Value), Aside0 (spec_l20Proof.j0 kq a1 t292 t293 x10_4 s0_0 t299 x306000_4 x306001_4 = some (r1, r2, r3, r4, r5, r6)) ∧ Aside0 (kq ≤ k) ∧ Aside0 (Kd.S k79 79 wc w.heap.size (fun k_ => some k_ ≠ (v10 : Value).ownBlock) (.slice Ao8 t293.length co8) t293) ∧ Aside0 (Kd.R k82 82 wc w.heap.size (fun _ => True) v10 x10_4) ∧ Aside0 (Kd.R k68 68 wc w.heap.size (fun _ => True) u306001 x306001_4) ∧ Aside0 (wc.heap[gb291]? = some (.cells #[.int .i64 0, (.slice none 0 0)] 27 (0, 0))) ∧ Aside0 (wc.heap[gb305]? = some (.cells #[.int .i64 x306000_4, u306001] 27 (0, 0))) ∧ Aside0 (IsS99 w0 wc g s0_0 t299) ∧ Aside0 (KeepBut w wc g none) ∧ Aside0 (Below w0.heap.size w0 wc))
 case first =>
  have H := HC5.out
  clear HC5
  revert H; refine ib_ ?_ ?_ <;> rintro rfl H
  ·have H' := mk_ H
   clear H
   go_wp2
   go_meet
   case rel => exact ⟨_, (t296), (t300), (t301), (.slice Ao15 t301.length co15), H', ⟨by first | omega | exact Nat.le_refl _⟩, ⟨by (with_reducible repeat (first | apply Kd.S_alloc | apply Kd.S_drewN | apply Kd.S_drew)); exact Kd.S_mono (Kd.S_far (p := ⟨gb305, 1, none⟩) (Kd.S_far (p := ⟨gb305, 0, none⟩) (Kd.S_types HO295.out BK305.out (by decide)) (fun _ hk => hk.2) (.int .i64 t300)) (fun _ hk => hk.2) (.slice Ao15 t301.length co15)) (fun _ hk => hk.1)⟩, ⟨by (with_reducible repeat (first | apply Kd.R_alloc | apply Kd.R_drewN | apply Kd.R_drew)); exact Kd.R_mono (Kd.R_far (p := ⟨gb305, 1, none⟩) (Kd.R_far (p := ⟨gb305, 0, none⟩) (Kd.R_types HO298.out BK305.out (by decide)) (fun _ hk => hk.2) (.int .i64 t300)) (fun _ hk => hk.2) (.slice Ao15 t301.length co15)) (fun _ hk => trivial)⟩, ⟨by (with_reducible repeat (first | apply Kd.R_alloc | apply Kd.R_drewN | apply Kd.R_drew)); exact Kd.R_mono (Kd.R_far (p := ⟨gb305, 1, none⟩) (Kd.R_far (p := ⟨gb305, 0, none⟩) (Kd.R_types HO303.out BK305.out (by decide)) (fun _ hk => hk.2) (.int .i64 t300)) (fun _ hk => hk.2) (.slice Ao15 t301.length co15)) (fun _ hk => trivial)⟩, ⟨by refine bs_ ?_; refine blk_far ?_ NB291_305.out _; refine bs_ ?_; refine blk_far ?_ NB291_305.out _; refine bs_ ?_; exact BK291.out⟩, ⟨by refine bs_ ?_; refine blk_put (cs := #[.int .i64 t300, .slice none 0 0]) ?_ 1 _ rfl; refine bs_ ?_; refine blk_put (cs := #[.int .i64 0, .slice none 0 0]) ?_ 0 _ rfl; refine bs_ ?_; exact BK305.out⟩, ⟨by repeat (first | (with_reducible first | exact HI0.out | apply IsS99.alloc | apply IsS99.drewN | apply IsS99.drew | apply IsS99.set_1 | refine IsS99.far ?_ NB0_291.out _ | refine IsS99.far ?_ NB0_305.out _) | exact HI0.out)⟩, ⟨by repeat (first | (with_reducible first | exact HK.out | apply KeepBut.set_ | apply keep_drewN | apply keep_drew | apply keep_alloc | refine keep_far ?_ GW291.out _ | refine keep_far ?_ GW305.out _) | exact HK.out)⟩, ⟨by repeat (first | (with_reducible first | exact HB.out | apply below_alloc | apply pw_below_drewN | apply below_drew1 | refine below_set ?_ (IsS99.ge HI0.out) | refine below_set ?_ GE291.out | refine below_set ?_ GE305.out) | exact HB.out)⟩⟩
  obtain ⟨y306, hy306⟩ : ∃ y_ : List (S82), y_ = (([(⟨1, 0⟩ : S82)] : List (S82))) := ⟨_, rfl⟩
  first | (replace H := bn_ hy306 H; try dsimp only at H) | rw [← hy306] at H
  have Ny306 := mk_ hy306
  clear hy306
  replace H := bm_ H; obtain ⟨⟨t309, t310, t313⟩, A17, H⟩ := H
  try dsimp only at H
  have H' := mk_ H
  clear H
  go_wp2_with (first | ((with_reducible refine gate_dst (N := 29) rfl ?_); refine Kd.R_lit k82 _ 82 ?hg (N := 29) ?hd (xs := ([(⟨1, 0⟩ : S82)] : List (S82))) (inner := [.int .i64 1, .int .i64 0]) (ok := fun _ => True) (okp := fun _ => True) ?hr ?hp (fun _ hk => hk) trivial (Below.refl _ _) (Nat.le_refl _) (by simp) ?_; (case hd => rfl); (case hg => rfl); (case hr => first | (go_simp; done) | (go_simp; rfl)); (case hp => exact (Reps.c2 (show Kd.M k82 _ _ _ (⟨1, 0⟩ : S82) [.int .i64 1, .int .i64 0] from (k82_mkM _ _ _ (⟨1, 0⟩ : S82) )) (Reps.none _ _))); intro v307 w18 ho19 hb hg_ hnew_; clear hg_ hnew_; (first | rw [← Ny306.out] at ho19 | (simp only [Int.reduceToNat] at ho19; rw [← Ny306.out] at ho19)); replace HO295 := mk_ (Kd.S_elder' (by (with_reducible repeat (first | apply Kd.S_alloc | apply Kd.S_drewN | apply Kd.S_drew)); exact (Kd.S_mono (Kd.S_far (p := ⟨gb305, 1, none⟩) (Kd.S_far (p := ⟨gb305, 0, none⟩) (Kd.S_types HO295.out BK305.out (by decide)) (fun _ hk => hk.2) (.int .i64 t300)) (fun _ hk => hk.2) (.slice Ao15 t301.length co15)) (fun _ h_ => h_.1))) (Kd.R_base ho19) hb); replace HO303 := mk_ (Kd.R_below (by (with_reducible repeat (first | apply Kd.R_alloc | apply Kd.R_drewN | apply Kd.R_drew)); exact (Kd.R_mono (Kd.R_far (p := ⟨gb305, 1, none⟩) (Kd.R_far (p := ⟨gb305, 0, none⟩) (Kd.R_types HO303.out BK305.out (by decide)) (fun _ hk => hk.2) (.int .i64 t300)) (fun _ hk => hk.2) (.slice Ao15 t301.length co15)) (fun _ h_ => h_.1))) hb); have HO308 := mk_ (Kd.R_lower (Kd.R_new' ho19 (Kd.R_lt (by (with_reducible repeat (first | apply Kd.R_alloc | apply Kd.R_drewN | apply Kd.R_drew)); exact (Kd.R_mono (Kd.R_far (p := ⟨gb305, 1, none⟩) (Kd.R_far (p := ⟨gb305, 0, none⟩) (Kd.R_types HO298.out BK305.out (by decide)) (fun _ hk => hk.2) (.int .i64 t300)) (fun _ hk => hk.2) (.slice Ao15 t301.length co15)) (fun _ h_ => h_.1))))) (keep_size (w := w) (g := g) (row := none) (by repeat (first | (with_reducible first | exact HK.out | apply KeepBut.set_ | apply keep_drewN | apply keep_drew | apply keep_alloc | refine keep_far ?_ GW291.out _ | refine keep_far ?_ GW305.out _) | exact HK.out)))); replace BK291 := mk_ (blk_below (g := gb291) (o := .cells #[.int .i64 0, .slice none 0 0] 27 (0, 0)) (by refine bs_ ?_; refine blk_far ?_ NB291_305.out _; refine bs_ ?_; refine blk_far ?_ NB291_305.out _; refine bs_ ?_; exact BK291.out) hb); replace BK305 := mk_ (blk_below (g := gb305) (o := .cells #[.int .i64 t300, .slice Ao15 t301.length co15] 27 (0, 0)) (by refine bs_ ?_; refine blk_put (cs := #[.int .i64 t300, .slice none 0 0]) ?_ 1 _ rfl; refine bs_ ?_; refine blk_put (cs := #[.int .i64 0, .slice none 0 0]) ?_ 0 _ rfl; refine bs_ ?_; exact BK305.out) hb); replace HK := mk_ (KeepBut.trans (by repeat (first | (with_reducible first | exact HK.out | apply KeepBut.set_ | apply keep_drewN | apply keep_drew | apply keep_alloc | refine keep_far ?_ GW291.out _ | refine keep_far ?_ GW305.out _) | exact HK.out)) (KeepBut.of_below hb g none) (.inl rfl)); replace HB := mk_ (below_step (by repeat (first | (with_reducible first | exact HB.out | apply below_alloc | apply pw_below_drewN | apply below_drew1 | refine below_set ?_ (IsS99.ge HI0.out) | refine below_set ?_ GE291.out | refine below_set ?_ GE305.out) | exact HB.out)) hb); replace HI0 := mk_ (IsS99.below (show IsS99 w0 ((w11.setCell ⟨gb305, 0, none⟩ (.int .i64 t300)).setCell ⟨gb305, 1, none⟩ (.slice Ao15 t301.length co15)) g s0_0 t299 from by repeat (first | (with_reducible first | exact HI0.out | apply IsS99.alloc | apply IsS99.drewN | apply IsS99.drew | apply IsS99.set_1 | refine IsS99.far ?_ NB0_291.out _ | refine IsS99.far ?_ NB0_305.out _) | exact HI0.out)) hb); (try clear HO298); clear hb ho19; obtain ⟨Ao20, co20, eo20⟩ := Kd.R_slice HO308.out; subst eo20) | (refine gc_ 54 (some 34) Tryd.func54 #[.int .i64 t292, .slice Ao8 t293.length co8, .slice Ao20 y306.length co20] ?_; (with_reducible refine (spec_FindProof.calls k t292 _ _ t293 _ _ y306 t309 t310 t313 _ ?side1 ?side2 ?side3 ?side4 A17.out).mono ?_); (case side1 => exact Kd.C_below (Kd.S_reads' HO295.out).2.2 lt_); (case side2 => exact (Kd.S_reads' HO295.out).2.1); (case side3 => exact Kd.C_below (Kd.R_reads' HO308.out).2.2 lt_); (case side4 => exact (Kd.R_reads' HO308.out).2.1); rintro e w21 ⟨v311, rfl, ho0, hb⟩; refine ⟨_, rfl, ?_⟩; replace HO295 := mk_ (Kd.S_below (Kd.S_below HO295.out lt_) hb); replace HO308 := mk_ (Kd.R_below (Kd.R_below HO308.out lt_) hb); have HO312 := mk_ (Kd.R_lower (Kd.R_new' ho0 (Kd.R_lt (Kd.R_below HO303.out lt_))) (keep_size (w := w) (g := g) (row := none) (by repeat (first | (with_reducible first | exact HK.out | apply KeepBut.set_ | apply keep_drewN | apply keep_drew | apply keep_alloc | refine keep_far ?_ GW291.out _ | refine keep_far ?_ GW305.out _) | exact HK.out)))); replace BK291 := mk_ (blk_below (g := gb291) (o := .cells #[.int .i64 0, .slice none 0 0] 27 (0, 0)) (bk_ BK291.out) hb); replace BK305 := mk_ (blk_below (g := gb305) (o := .cells #[.int .i64 t300, .slice Ao15 t301.length co15] 27 (0, 0)) (bk_ BK305.out) hb); replace HK := mk_ (KeepBut.trans (by repeat (first | (with_reducible first | exact HK.out | apply KeepBut.set_ | apply keep_drewN | apply keep_drew | apply keep_alloc | refine keep_far ?_ GW291.out _ | refine keep_far ?_ GW305.out _) | exact HK.out)) (KeepBut.of_below hb g none) (.inl rfl)); replace HB := mk_ (below_step (by repeat (first | (with_reducible first | exact HB.out | apply below_alloc | apply pw_below_drewN | apply below_drew1 | refine below_set ?_ (IsS99.ge HI0.out) | refine below_set ?_ GE291.out | refine below_set ?_ GE305.out) | exact HB.out)) hb); replace HI0 := mk_ (IsS99.below (by repeat (first | (with_reducible first | exact HI0.out | apply IsS99.alloc | apply IsS99.drewN | apply IsS99.drew | apply IsS99.set_1 | refine IsS99.far ?_ NB0_291.out _ | refine IsS99.far ?_ NB0_305.out _) | exact HI0.out)) hb); (try clear HO298 HO303); (try clear hb); (try clear ho0); have hnb22 := NB305_291.out; have hnc22 := NB291_305.out; have hnb23 := NB305_0.out; have hnc23 := NB0_305.out; have hcz24_0 : w21.cell? ⟨gb305, 0, none⟩ = some (.int .i64 t300) := (blk_cell BK305.out 0).trans rfl; have hcz24_1 : w21.cell? ⟨gb305, 1, none⟩ = some (.slice Ao15 t301.length co15) := (blk_cell BK305.out 1).trans rfl; have hfz24_0 := blk_frozen BK305.out 0; have hfz24_1 := blk_frozen BK305.out 1; obtain ⟨Ao25, co25, eo25⟩ := Kd.R_slice HO312.out; subst eo25))
  go_meet
  case rel => exact ⟨_, (y306), (t309), (t310), (.slice Ao25 t310.length co25), H', ⟨by first | omega | exact Nat.le_refl _⟩, ⟨by (with_reducible repeat (first | apply Kd.S_alloc | apply Kd.S_drewN | apply Kd.S_drew)); exact Kd.S_mono (Kd.S_far (p := ⟨gb305, 1, none⟩) (Kd.S_far (p := ⟨gb305, 0, none⟩) (Kd.S_types HO295.out BK305.out (by decide)) (fun _ hk => hk.2) (.int .i64 t309)) (fun _ hk => hk.2) (.slice Ao25 t310.length co25)) (fun _ hk => hk.1.2)⟩, ⟨by (with_reducible repeat (first | apply Kd.R_alloc | apply Kd.R_drewN | apply Kd.R_drew)); exact Kd.R_mono (Kd.R_far (p := ⟨gb305, 1, none⟩) (Kd.R_far (p := ⟨gb305, 0, none⟩) (Kd.R_types HO308.out BK305.out (by decide)) (fun _ hk => hk.2) (.int .i64 t309)) (fun _ hk => hk.2) (.slice Ao25 t310.length co25)) (fun _ hk => trivial)⟩, ⟨by (with_reducible repeat (first | apply Kd.R_alloc | apply Kd.R_drewN | apply Kd.R_drew)); exact Kd.R_mono (Kd.R_far (p := ⟨gb305, 1, none⟩) (Kd.R_far (p := ⟨gb305, 0, none⟩) (Kd.R_types HO312.out BK305.out (by decide)) (fun _ hk => hk.2) (.int .i64 t309)) (fun _ hk => hk.2) (.slice Ao25 t310.length co25)) (fun _ hk => trivial)⟩, ⟨by refine bs_ ?_; refine blk_far ?_ NB291_305.out _; refine bs_ ?_; refine blk_far ?_ NB291_305.out _; refine bs_ ?_; exact BK291.out⟩, ⟨by refine bs_ ?_; refine blk_put (cs := #[.int .i64 t309, .slice Ao15 t301.length co15]) ?_ 1 _ rfl; refine bs_ ?_; refine blk_put (cs := #[.int .i64 t300, .slice Ao15 t301.length co15]) ?_ 0 _ rfl; refine bs_ ?_; exact BK305.out⟩, ⟨by repeat (first | (with_reducible first | exact HI0.out | apply IsS99.alloc | apply IsS99.drewN | apply IsS99.drew | apply IsS99.set_1 | refine IsS99.far ?_ NB0_291.out _ | refine IsS99.far ?_ NB0_305.out _) | exact HI0.out)⟩, ⟨by repeat (first | (with_reducible first | exact HK.out | apply KeepBut.set_ | apply keep_drewN | apply keep_drew | apply keep_alloc | refine keep_far ?_ GW291.out _ | refine keep_far ?_ GW305.out _) | exact HK.out)⟩, ⟨by repeat (first | (with_reducible first | exact HB.out | apply below_alloc | apply pw_below_drewN | apply below_drew1 | refine below_set ?_ (IsS99.ge HI0.out) | refine below_set ?_ GE291.out | refine below_set ?_ GE305.out) | exact HB.out)⟩⟩
 clear HC5
 try clear c1
 try clear c2
 try clear p2
 try clear c5
 try clear c12
 try clear c13
 try clear c16
 try clear c22
 try clear c23
 try clear hcz14_0
 try clear hcz14_1
 try clear hcz24_0
 try clear hcz24_1
 try clear hfz14_0
 try clear hfz14_1
 try clear hfz24_0
 try clear hfz24_1
 obtain ⟨kq, x10_4, x306000_4, x306001_4, u306001, HA, HJ4, HO_9, HO_10, HO_306001, BK291, BK305, HI0, HK, HB⟩ := hcut
 cases kq with
 | zero => exact absurd HA.out (by simp [spec_l20Proof.j0])
 | succ kj4 =>
  have H := HA.out
  clear HA
  simp only [spec_l20Proof.j0] at H
  replace H := bm_ H; obtain ⟨⟨t314, t315⟩, A26, H⟩ := H
  try dsimp only at H
  have HC27 := mk_ H
  clear H
  go_upto_if 39 with (first | (refine gc_ 55 (some 39) Tryd.func55 #[.pointer (some ⟨g, 0, none⟩), .int .i64 a1] ?_; (with_reducible refine (spec_l20Rd_odd.calls kj4 g s0_0 t299 a1 t314 t315 w0 _ ?side1 ?side2 A26.out).mono ?_); (case side1 => repeat (first | (with_reducible first | exact HI0.out | apply IsS99.alloc | apply IsS99.drewN | apply IsS99.drew | apply IsS99.set_1 | refine IsS99.far ?_ NB0_291.out _ | refine IsS99.far ?_ NB0_305.out _) | exact HI0.out)); (case side2 => repeat (first | (with_reducible first | exact HB.out | apply below_alloc | apply pw_below_drewN | apply below_drew1 | refine below_set ?_ (IsS99.ge HI0.out) | refine below_set ?_ GE291.out | refine below_set ?_ GE305.out) | exact HB.out)); rintro e w28 ⟨rfl, hi, hb, hk⟩; refine ⟨_, rfl, ?_⟩; replace HO_9 := mk_ (Kd.S_mono (Kd.S_keep (IsS99.apartS (show IsS99 w0 _ g s0_0 t299 from by repeat (first | (with_reducible first | exact HI0.out | apply IsS99.alloc | apply IsS99.drewN | apply IsS99.drew | apply IsS99.set_1 | refine IsS99.far ?_ NB0_291.out _ | refine IsS99.far ?_ NB0_305.out _) | exact HI0.out)) (Kd.S_below HO_9.out lt_) (by decide)) hk (fun _ h => h.2)) (fun _ h => h.1)); replace HO_10 := mk_ (Kd.R_mono (Kd.R_keep (IsS99.apart (show IsS99 w0 _ g s0_0 t299 from by repeat (first | (with_reducible first | exact HI0.out | apply IsS99.alloc | apply IsS99.drewN | apply IsS99.drew | apply IsS99.set_1 | refine IsS99.far ?_ NB0_291.out _ | refine IsS99.far ?_ NB0_305.out _) | exact HI0.out)) (Kd.R_below HO_10.out lt_) (by decide)) hk (fun _ h => h.2)) (fun _ h => h.1)); replace HO_306001 := mk_ (Kd.R_mono (Kd.R_keep (IsS99.apart (show IsS99 w0 _ g s0_0 t299 from by repeat (first | (with_reducible first | exact HI0.out | apply IsS99.alloc | apply IsS99.drewN | apply IsS99.drew | apply IsS99.set_1 | refine IsS99.far ?_ NB0_291.out _ | refine IsS99.far ?_ NB0_305.out _) | exact HI0.out)) (Kd.R_below HO_306001.out lt_) (by decide)) hk (fun _ h => h.2)) (fun _ h => h.1)); replace BK291 := mk_ (KeepBut.blk hk (g' := gb291) (o := .cells #[.int .i64 0, .slice none 0 0] 27 (0, 0)) (bk_ BK291.out) NB291_0.out (by simp)); replace BK305 := mk_ (KeepBut.blk hk (g' := gb305) (o := .cells #[.int .i64 x306000_4, u306001] 27 (0, 0)) (bk_ BK305.out) NB305_0.out (by simp)); replace HK := mk_ (KeepBut.trans (by repeat (first | (with_reducible first | exact HK.out | apply KeepBut.set_ | apply keep_drewN | apply keep_drew | apply keep_alloc | refine keep_far ?_ GW291.out _ | refine keep_far ?_ GW305.out _) | exact HK.out)) hk (.inl rfl)); replace HB := mk_ (hb); replace HI0 := mk_ (hi); (try clear hb)))
  (try simp only [Act.put, z0_, z1_, z2_])
  go_cut [] (fun wc => ∃ (kq : Nat) (x1001_26 : Int) (x306000_26 : Int) (x306001_26 : List (S68)) (u306001 : Value), Aside0 (spec_l20Proof.j1 kq t292 t293 x10_4 s0_0 x1001_26 x306000_26 x306001_26 = some (r1, r2, r3, r4, r5, r6)) ∧ Aside0 (kq ≤ kj4) ∧ Aside0 (Kd.S k79 79 wc w.heap.size (fun k_ => some k_ ≠ (u10 : Value).ownBlock) (.slice Ao8 t293.length co8) t293) ∧ Aside0 (Kd.R k82 82 wc w.heap.size (fun _ => True) u10 x10_4) ∧ Aside0 (Kd.R k68 68 wc w.heap.size (fun _ => True) u306001 x306001_26) ∧ Aside0 (wc.heap[gb291]? = some (.cells #[.int .i64 0, (.slice none 0 0)] 27 (0, 0))) ∧ Aside0 (wc.heap[gb305]? = some (.cells #[.int .i64 x306000_26, u306001] 27 (0, 0))) ∧ Aside0 (IsS99 w0 wc g s0_0 x1001_26) ∧ Aside0 (KeepBut w wc g none) ∧ Aside0 (Below w0.heap.size w0 wc))
  case first =>
   have H := HC27.out
   clear HC27
   revert H; refine bi_ ?_ ?_ <;> rintro rfl H
   ·have H' := mk_ H
    clear H
    go_wp2
    go_meet
    case rel => exact ⟨_, (t315), (x306000_4), (x306001_4), (u306001), H', ⟨by have := HJ4.out; first | omega | exact Nat.le_refl _⟩, ⟨Kd.S_below HO_9.out lt_⟩, ⟨Kd.R_below HO_10.out lt_⟩, ⟨Kd.R_below HO_306001.out lt_⟩, ⟨by refine bs_ ?_; exact BK291.out⟩, ⟨by refine bs_ ?_; exact BK305.out⟩, ⟨by repeat (first | (with_reducible first | exact HI0.out | apply IsS99.alloc | apply IsS99.drewN | apply IsS99.drew | apply IsS99.set_1 | refine IsS99.far ?_ NB0_291.out _ | refine IsS99.far ?_ NB0_305.out _) | exact HI0.out)⟩, ⟨by repeat (first | (with_reducible first | exact HK.out | apply KeepBut.set_ | apply keep_drewN | apply keep_drew | apply keep_alloc | refine keep_far ?_ GW291.out _ | refine keep_far ?_ GW305.out _) | exact HK.out)⟩, ⟨by repeat (first | (with_reducible first | exact HB.out | apply below_alloc | apply pw_below_drewN | apply below_drew1 | refine below_set ?_ (IsS99.ge HI0.out) | refine below_set ?_ GE291.out | refine below_set ?_ GE305.out) | exact HB.out)⟩⟩
   replace H := bm_ H; obtain ⟨⟨t316, t317⟩, A30, H⟩ := H
   try dsimp only at H
   go_upto_region 10 with (first | (refine gc_ 52 (some 41) Tryd.func52 #[.pointer (some ⟨g, 0, none⟩), .int .i64 4] ?_; (with_reducible refine (spec_l20Rd_pick.calls kj4 g s0_0 t315 4 t316 t317 w0 _ ?side1 ?side2 A30.out).mono ?_); (case side1 => repeat (first | (with_reducible first | exact HI0.out | apply IsS99.alloc | apply IsS99.drewN | apply IsS99.drew | apply IsS99.set_1 | refine IsS99.far ?_ NB0_291.out _ | refine IsS99.far ?_ NB0_305.out _) | exact HI0.out)); (case side2 => repeat (first | (with_reducible first | exact HB.out | apply below_alloc | apply pw_below_drewN | apply below_drew1 | refine below_set ?_ (IsS99.ge HI0.out) | refine below_set ?_ GE291.out | refine below_set ?_ GE305.out) | exact HB.out)); rintro e w33 ⟨rfl, hi, hb, hk⟩; refine ⟨_, rfl, ?_⟩; replace HO_9 := mk_ (Kd.S_mono (Kd.S_keep (IsS99.apartS (show IsS99 w0 _ g s0_0 t315 from by repeat (first | (with_reducible first | exact HI0.out | apply IsS99.alloc | apply IsS99.drewN | apply IsS99.drew | apply IsS99.set_1 | refine IsS99.far ?_ NB0_291.out _ | refine IsS99.far ?_ NB0_305.out _) | exact HI0.out)) (Kd.S_below HO_9.out lt_) (by decide)) hk (fun _ h => h.2)) (fun _ h => h.1)); replace HO_10 := mk_ (Kd.R_mono (Kd.R_keep (IsS99.apart (show IsS99 w0 _ g s0_0 t315 from by repeat (first | (with_reducible first | exact HI0.out | apply IsS99.alloc | apply IsS99.drewN | apply IsS99.drew | apply IsS99.set_1 | refine IsS99.far ?_ NB0_291.out _ | refine IsS99.far ?_ NB0_305.out _) | exact HI0.out)) (Kd.R_below HO_10.out lt_) (by decide)) hk (fun _ h => h.2)) (fun _ h => h.1)); replace HO_306001 := mk_ (Kd.R_mono (Kd.R_keep (IsS99.apart (show IsS99 w0 _ g s0_0 t315 from by repeat (first | (with_reducible first | exact HI0.out | apply IsS99.alloc | apply IsS99.drewN | apply IsS99.drew | apply IsS99.set_1 | refine IsS99.far ?_ NB0_291.out _ | refine IsS99.far ?_ NB0_305.out _) | exact HI0.out)) (Kd.R_below HO_306001.out lt_) (by decide)) hk (fun _ h => h.2)) (fun _ h => h.1)); replace BK291 := mk_ (KeepBut.blk hk (g' := gb291) (o := .cells #[.int .i64 0, .slice none 0 0] 27 (0, 0)) (bk_ BK291.out) NB291_0.out (by simp)); replace BK305 := mk_ (KeepBut.blk hk (g' := gb305) (o := .cells #[.int .i64 x306000_4, u306001] 27 (0, 0)) (bk_ BK305.out) NB305_0.out (by simp)); replace HK := mk_ (KeepBut.trans (by repeat (first | (with_reducible first | exact HK.out | apply KeepBut.set_ | apply keep_drewN | apply keep_drew | apply keep_alloc | refine keep_far ?_ GW291.out _ | refine keep_far ?_ GW305.out _) | exact HK.out)) hk (.inl rfl)); replace HB := mk_ (hb); replace HI0 := mk_ (hi); (try clear hb)))
   revert H; refine it_ (qt_ fun c31b0 c31b1 H => ?_) (qfk_ fun c31 c31b0 c31b1 H => ?_)
   ·(first | rw [c31b0] | (simp only [i64_w, i32_w]; rw [c31b0]) | skip)
    replace H := bm_ H; obtain ⟨⟨t318, t319⟩, A32, H⟩ := H
    try dsimp only at H
    have H' := mk_ H
    clear H
    go_wp2_with (first | (refine gc_ 52 (some 56) Tryd.func52 #[.pointer (some ⟨g, 0, none⟩), .int .i64 4] ?_; (with_reducible refine (spec_l20Rd_pick.calls kj4 g s0_0 t317 4 t318 t319 w0 _ ?side1 ?side2 A32.out).mono ?_); (case side1 => repeat (first | (with_reducible first | exact HI0.out | apply IsS99.alloc | apply IsS99.drewN | apply IsS99.drew | apply IsS99.set_1 | refine IsS99.far ?_ NB0_291.out _ | refine IsS99.far ?_ NB0_305.out _) | exact HI0.out)); (case side2 => repeat (first | (with_reducible first | exact HB.out | apply below_alloc | apply pw_below_drewN | apply below_drew1 | refine below_set ?_ (IsS99.ge HI0.out) | refine below_set ?_ GE291.out | refine below_set ?_ GE305.out) | exact HB.out)); rintro e w34 ⟨rfl, hi, hb, hk⟩; refine ⟨_, rfl, ?_⟩; replace HO_9 := mk_ (Kd.S_mono (Kd.S_keep (IsS99.apartS (show IsS99 w0 _ g s0_0 t317 from by repeat (first | (with_reducible first | exact HI0.out | apply IsS99.alloc | apply IsS99.drewN | apply IsS99.drew | apply IsS99.set_1 | refine IsS99.far ?_ NB0_291.out _ | refine IsS99.far ?_ NB0_305.out _) | exact HI0.out)) (Kd.S_below HO_9.out lt_) (by decide)) hk (fun _ h => h.2)) (fun _ h => h.1)); replace HO_10 := mk_ (Kd.R_mono (Kd.R_keep (IsS99.apart (show IsS99 w0 _ g s0_0 t317 from by repeat (first | (with_reducible first | exact HI0.out | apply IsS99.alloc | apply IsS99.drewN | apply IsS99.drew | apply IsS99.set_1 | refine IsS99.far ?_ NB0_291.out _ | refine IsS99.far ?_ NB0_305.out _) | exact HI0.out)) (Kd.R_below HO_10.out lt_) (by decide)) hk (fun _ h => h.2)) (fun _ h => h.1)); replace HO_306001 := mk_ (Kd.R_mono (Kd.R_keep (IsS99.apart (show IsS99 w0 _ g s0_0 t317 from by repeat (first | (with_reducible first | exact HI0.out | apply IsS99.alloc | apply IsS99.drewN | apply IsS99.drew | apply IsS99.set_1 | refine IsS99.far ?_ NB0_291.out _ | refine IsS99.far ?_ NB0_305.out _) | exact HI0.out)) (Kd.R_below HO_306001.out lt_) (by decide)) hk (fun _ h => h.2)) (fun _ h => h.1)); replace BK291 := mk_ (KeepBut.blk hk (g' := gb291) (o := .cells #[.int .i64 0, .slice none 0 0] 27 (0, 0)) (bk_ BK291.out) NB291_0.out (by simp)); replace BK305 := mk_ (KeepBut.blk hk (g' := gb305) (o := .cells #[.int .i64 x306000_4, u306001] 27 (0, 0)) (bk_ BK305.out) NB305_0.out (by simp)); replace HK := mk_ (KeepBut.trans (by repeat (first | (with_reducible first | exact HK.out | apply KeepBut.set_ | apply keep_drewN | apply keep_drew | apply keep_alloc | refine keep_far ?_ GW291.out _ | refine keep_far ?_ GW305.out _) | exact HK.out)) hk (.inl rfl)); replace HB := mk_ (hb); replace HI0 := mk_ (hi); (try clear hb); have hnb35 := NB305_291.out; have hnc35 := NB291_305.out; have hnb36 := NB305_0.out; have hnc36 := NB0_305.out; have hcz37_0 : w34.cell? ⟨gb305, 0, none⟩ = some (.int .i64 x306000_4) := (blk_cell BK305.out 0).trans rfl; have hcz37_1 : w34.cell? ⟨gb305, 1, none⟩ = some (u306001) := (blk_cell BK305.out 1).trans rfl; have hfz37_0 := blk_frozen BK305.out 0; have hfz37_1 := blk_frozen BK305.out 1))
    go_meet
    case rel => exact ⟨_, (t319), (wrap64 (t318 - 3)), (x306001_4), (u306001), H', ⟨by have := HJ4.out; first | omega | exact Nat.le_refl _⟩, ⟨by (with_reducible repeat (first | apply Kd.S_alloc | apply Kd.S_drewN | apply Kd.S_drew)); exact Kd.S_mono (Kd.S_far (p := ⟨gb305, 0, none⟩) (Kd.S_types HO_9.out BK305.out (by decide)) (fun _ hk => hk.2) (.int .i64 (wrap64 (t318 - 3)))) (fun _ hk => hk.1)⟩, ⟨by (with_reducible repeat (first | apply Kd.R_alloc | apply Kd.R_drewN | apply Kd.R_drew)); exact Kd.R_mono (Kd.R_far (p := ⟨gb305, 0, none⟩) (Kd.R_types HO_10.out BK305.out (by decide)) (fun _ hk => hk.2) (.int .i64 (wrap64 (t318 - 3)))) (fun _ hk => trivial)⟩, ⟨by (with_reducible repeat (first | apply Kd.R_alloc | apply Kd.R_drewN | apply Kd.R_drew)); exact Kd.R_mono (Kd.R_far (p := ⟨gb305, 0, none⟩) (Kd.R_types HO_306001.out BK305.out (by decide)) (fun _ hk => hk.2) (.int .i64 (wrap64 (t318 - 3)))) (fun _ hk => trivial)⟩, ⟨by refine bs_ ?_; refine blk_far ?_ NB291_305.out _; refine bs_ ?_; exact BK291.out⟩, ⟨by refine bs_ ?_; refine blk_put (cs := #[.int .i64 x306000_4, u306001]) ?_ 0 _ rfl; refine bs_ ?_; exact BK305.out⟩, ⟨by repeat (first | (with_reducible first | exact HI0.out | apply IsS99.alloc | apply IsS99.drewN | apply IsS99.drew | apply IsS99.set_1 | refine IsS99.far ?_ NB0_291.out _ | refine IsS99.far ?_ NB0_305.out _) | exact HI0.out)⟩, ⟨by repeat (first | (with_reducible first | exact HK.out | apply KeepBut.set_ | apply keep_drewN | apply keep_drew | apply keep_alloc | refine keep_far ?_ GW291.out _ | refine keep_far ?_ GW305.out _) | exact HK.out)⟩, ⟨by repeat (first | (with_reducible first | exact HB.out | apply below_alloc | apply pw_below_drewN | apply below_drew1 | refine below_set ?_ (IsS99.ge HI0.out) | refine below_set ?_ GE291.out | refine below_set ?_ GE305.out) | exact HB.out)⟩⟩
   (first | rw [c31b0] | (simp only [i64_w, i32_w]; rw [c31b0]) | skip)
   revert H; refine it_ (qt_ fun c38b0 c38b1 H => ?_) (qfk_ fun c38 c38b0 c38b1 H => ?_)
   ·replace H := bm_ H; obtain ⟨⟨t320, t321⟩, A39, H⟩ := H
    try dsimp only at H
    revert H; refine g_ (mt_ fun LMc40 H => ?_)
    obtain ⟨y322, hy322⟩ : ∃ y_ : List (S68), y_ = (x306001_4 ++ [(⟨t320, (-1), (-2)⟩ : S68)]) := ⟨_, rfl⟩
    first | (replace H := bn_ hy322 H; try dsimp only at H) | rw [← hy322] at H
    have Ny322 := mk_ hy322
    clear hy322
    have H' := mk_ H
    clear H
    try go_wp2
    replace HO_9 := mk_ (Kd.S_drew HO_9.out)
    replace HO_10 := mk_ (Kd.R_drew HO_10.out)
    replace HO_306001 := mk_ (Kd.R_drew HO_306001.out)
    replace BK291 := mk_ (blk_drew BK291.out)
    replace BK305 := mk_ (blk_drew BK305.out)
    replace HI0 := mk_ (IsS99.drew HI0.out)
    replace HK := mk_ (keep_drew HK.out)
    replace HB := mk_ (below_drew1 HB.out)
    refine start_ (n := 9) (S := fun w' => w'.cell? ⟨gb305, 0, none⟩ = some (.int .i64 x306000_4) ∧ w'.cell? ⟨gb305, 1, none⟩ = some (u306001)) (ds := [8]) #[false, false, false, false, false, false, false, false, false] (by kernel_rfl) rfl rfl ⟨(blk_cell BK305.out 0).trans rfl, (blk_cell BK305.out 1).trans rfl⟩ (fun hHeld => ?_); refine with_tabW spec_l20Proof.tab13 spec_l20Proof.bits13 (fun HT_ HW_ => ?_)
    generalize w33.drew = w42 at HO_9 HO_10 HO_306001 BK291 BK305 HI0 HK HB hHeld ⊢
    refine pus_ 0 (some 61) (ao_ HT_) ?_
    refine pus_ 2 (some 63) (ao_ HT_) ?_
    refine tas_ 1 (some 62) (to_ HT_ HW_) hHeld ?_
    refine ons_ 3 (some 64) (oo_ HT_) (fun K hK => ?_)
    refine goes_ Tryd.func52 (by kernel_rfl) rfl #[.pointer (some ⟨g, 0, none⟩), .int .i64 4] (by rfl) rfl rfl gl_ ?_
    with_reducible refine (spec_l20Rd_pick.calls kj4 g s0_0 t317 4 t320 t321 w0 _ ?side1 ?side2 A39.out).mono ?_
    (case side1 => repeat (first | (with_reducible first | exact HI0.out | apply IsS99.alloc | apply IsS99.drewN | apply IsS99.drew | apply IsS99.set_1 | refine IsS99.far ?_ NB0_291.out _ | refine IsS99.far ?_ NB0_305.out _) | exact HI0.out))
    (case side2 => repeat (first | (with_reducible first | exact HB.out | apply below_alloc | apply pw_below_drewN | apply below_drew1 | refine below_set ?_ (IsS99.ge HI0.out) | refine below_set ?_ GE291.out | refine below_set ?_ GE305.out) | exact HB.out))
    rintro e w43 ⟨rfl, hi, hb, hk⟩
    refine ⟨_, rfl, ?_⟩
    replace HO_9 := mk_ (Kd.S_mono (Kd.S_keep (IsS99.apartS (show IsS99 w0 _ g s0_0 t317 from by repeat (first | (with_reducible first | exact HI0.out | apply IsS99.alloc | apply IsS99.drewN | apply IsS99.drew | apply IsS99.set_1 | refine IsS99.far ?_ NB0_291.out _ | refine IsS99.far ?_ NB0_305.out _) | exact HI0.out)) (Kd.S_below HO_9.out lt_) (by decide)) hk (fun _ h => h.2)) (fun _ h => h.1))
    replace HO_10 := mk_ (Kd.R_mono (Kd.R_keep (IsS99.apart (show IsS99 w0 _ g s0_0 t317 from by repeat (first | (with_reducible first | exact HI0.out | apply IsS99.alloc | apply IsS99.drewN | apply IsS99.drew | apply IsS99.set_1 | refine IsS99.far ?_ NB0_291.out _ | refine IsS99.far ?_ NB0_305.out _) | exact HI0.out)) (Kd.R_below HO_10.out lt_) (by decide)) hk (fun _ h => h.2)) (fun _ h => h.1))
    replace HO_306001 := mk_ (Kd.R_mono (Kd.R_keep (IsS99.apart (show IsS99 w0 _ g s0_0 t317 from by repeat (first | (with_reducible first | exact HI0.out | apply IsS99.alloc | apply IsS99.drewN | apply IsS99.drew | apply IsS99.set_1 | refine IsS99.far ?_ NB0_291.out _ | refine IsS99.far ?_ NB0_305.out _) | exact HI0.out)) (Kd.R_below HO_306001.out lt_) (by decide)) hk (fun _ h => h.2)) (fun _ h => h.1))
    replace BK291 := mk_ (KeepBut.blk hk (g' := gb291) (o := .cells #[.int .i64 0, .slice none 0 0] 27 (0, 0)) (bk_ BK291.out) NB291_0.out (by simp))
    replace BK305 := mk_ (KeepBut.blk hk (g' := gb305) (o := .cells #[.int .i64 x306000_4, u306001] 27 (0, 0)) (bk_ BK305.out) NB305_0.out (by simp))
    replace HK := mk_ (KeepBut.trans (by repeat (first | (with_reducible first | exact HK.out | apply KeepBut.set_ | apply keep_drewN | apply keep_drew | apply keep_alloc | refine keep_far ?_ GW291.out _ | refine keep_far ?_ GW305.out _) | exact HK.out)) hk (.inl rfl))
    replace HB := mk_ (hb)
    replace HI0 := mk_ (hi)
    (try clear hb)
    (try clear hb2)
    (try clear hk)
    (try clear hi)
    refine hK.out _ _ ⟨(blk_cell BK305.out 0).trans rfl, (blk_cell BK305.out 1).trans rfl⟩ (fun hHeld => ?_)
    clear hK K
    refine nor_ (some 64) ?_
    refine pus_ 4 (some 65) (ao_ HT_) ?_
    refine ons_ 5 (some 66) (oo_ HT_) (fun K hK => ?_)
    refine value_ (w1 := ?_) (v := ?_) (by rfl) rfl ?_ ?_
    rotate_left 2
    ·go_simp
     constructor
     ·rfl
     rfl
    refine hK.out _ _ ⟨(blk_cell (blk_alloc BK305.out _) 0).trans rfl, (blk_cell (blk_alloc BK305.out _) 1).trans rfl⟩ (fun hHeld => ?_)
    clear hK K
    refine nor_ (some 66) ?_
    refine ons_ 6 (some 67) (oo_ HT_) (fun K hK => ?_)
    refine Kd.R_append_step k68 w.heap.size (by rfl) (.tmp 62) (.tmp 66) 25 68 (.agg #[(.int .i64 0), (.int .i64 0), (.int .i64 0)]) 24 rfl Tryd.underlying25 info68 rfl (by decide) (by omega) u306001 x306001_4 (⟨t320, (-1), (-2)⟩ : S68) [.int .i64 t320, .int .i64 (-1), .int .i64 (-2)] (fun _ => True) (fun _ => False) rfl rfl ?aP (fun _ hk => hk.elim) ?aF ?aO (Below.refl _ _) ?aS ?aL ?_
    (case aP => exact k68_mkM _ _ _ (⟨t320, (-1), (-2)⟩ : S68))
    (case aF => exact (fun _ _ => trivial))
    (case aO => exact (Kd.R_below HO_306001.out lt_))
    (case aS => exact (keep_size (w := w) (g := g) (row := none) (by repeat (first | (with_reducible first | exact HK.out | apply KeepBut.set_ | apply keep_drewN | apply keep_drew | apply keep_alloc | refine keep_far ?_ GW291.out _ | refine keep_far ?_ GW305.out _) | exact HK.out))))
    (case aL => have := LMc40.out; omega)
    intro v323 w44 ho hb hg hat
    rw [← Ny322.out] at ho
    replace HO_9 := mk_ (Kd.S_over' (Kd.S_below HO_9.out lt_) (Kd.R_typed (Kd.R_below HO_306001.out lt_)) (by decide) hg)
    replace HO_10 := mk_ (Kd.R_over' (Kd.R_below HO_10.out lt_) (Kd.R_typed (Kd.R_below HO_306001.out lt_)) (by decide) hg)
    replace BK291 := mk_ (blk_grown (g := gb291) (o := .cells #[.int .i64 0, .slice none 0 0] 27 (0, 0)) (bk_ BK291.out) hg (Kd.R_ne HO_306001.out BK291.out (by decide)))
    replace BK305 := mk_ (blk_grown (g := gb305) (o := .cells #[.int .i64 x306000_4, u306001] 27 (0, 0)) (bk_ BK305.out) hg (Kd.R_ne HO_306001.out BK305.out (by decide)))
    replace HB := mk_ (below_weaken (by repeat (first | (with_reducible first | exact HB.out | apply below_alloc | apply pw_below_drewN | apply below_drew1 | refine below_set ?_ (IsS99.ge HI0.out) | refine below_set ?_ GE291.out | refine below_set ?_ GE305.out) | exact HB.out)) HL.out hb)
    replace HI0 := mk_ (IsS99.grown (by repeat (first | (with_reducible first | exact HI0.out | apply IsS99.alloc | apply IsS99.drewN | apply IsS99.drew | apply IsS99.set_1 | refine IsS99.far ?_ NB0_291.out _ | refine IsS99.far ?_ NB0_305.out _) | exact HI0.out)) hg (IsS99.own_ne HI0.out HO_306001.out (by decide)))
    replace HK := mk_ (KeepBut.trans (by repeat (first | (with_reducible first | exact HK.out | apply KeepBut.set_ | apply keep_drewN | apply keep_drew | apply keep_alloc | refine keep_far ?_ GW291.out _ | refine keep_far ?_ GW305.out _) | exact HK.out)) (KeepBut.of_grown hg g) (Kd.R_base2 HO_306001.out))
    have HO324 := mk_ (ho)
    (try clear HO_306001)
    clear ho hb hg hat
    obtain ⟨Ao45, co45, eo45⟩ := Kd.R_slice HO324.out
    (first | subst eo45 | (injection eo45 with f1_ f2_ f3_; have f4_ := f1_.symm; have f5_ := f3_.symm; clear f1_ f2_ f3_; subst f4_; subst f5_))
    refine hK.out _ _ ⟨(blk_cell BK305.out 0).trans rfl, (blk_cell BK305.out 1).trans rfl⟩ (fun hHeld => ?_)
    clear hK K
    refine nor_ (some 67) ?_
    refine pus_ 7 (some 68) (ao_ HT_) ?_
    refine last_ (i := 8) (N := none) #[true, true, true, true, true, true, true, true, true] rfl rfl (one_of HT_.out (by kernel_rfl)) (by decide) (fun K hK => ?_)
    have hs46 : w44.cell? ⟨gb305, 1, none⟩ = some (u306001) := (blk_cell BK305.out 1).trans rfl
    have hfs46 := blk_frozen BK305.out 1
    have hns46_0 := NB291_305.out
    have hms46_0 := NB305_291.out
    refine skip_ (w1 := ?_) (by rfl) rfl ?_ ?_
    rotate_left
    ·go_simp
     rfl
    refine hK.out _ _ ?_
    clear hK K
    refine done_ (done_of HT_.out (by kernel_rfl)) ?_
    try go_wp2
    go_meet
    case rel => exact ⟨_, (t321), (x306000_4), (y322), (.slice Ao45 y322.length co45), H', ⟨by have := HJ4.out; first | omega | exact Nat.le_refl _⟩, ⟨by (with_reducible repeat (first | apply Kd.S_alloc | apply Kd.S_drewN | apply Kd.S_drew)); exact Kd.S_mono (Kd.S_far (p := ⟨gb305, 1, none⟩) (Kd.S_types HO_9.out BK305.out (by decide)) (fun _ hk => hk.2) (.slice Ao45 y322.length co45)) (fun _ hk => hk.1)⟩, ⟨by (with_reducible repeat (first | apply Kd.R_alloc | apply Kd.R_drewN | apply Kd.R_drew)); exact Kd.R_mono (Kd.R_far (p := ⟨gb305, 1, none⟩) (Kd.R_types HO_10.out BK305.out (by decide)) (fun _ hk => hk.2) (.slice Ao45 y322.length co45)) (fun _ hk => trivial)⟩, ⟨by (with_reducible repeat (first | apply Kd.R_alloc | apply Kd.R_drewN | apply Kd.R_drew)); exact Kd.R_mono (Kd.R_far (p := ⟨gb305, 1, none⟩) (Kd.R_types HO324.out BK305.out (by decide)) (fun _ hk => hk.2) (.slice Ao45 y322.length co45)) (fun _ hk => trivial)⟩, ⟨by refine bs_ ?_; refine blk_far ?_ NB291_305.out _; refine bs_ ?_; exact BK291.out⟩, ⟨by refine bs_ ?_; refine blk_put (cs := #[.int .i64 x306000_4, u306001]) ?_ 1 _ rfl; refine bs_ ?_; exact BK305.out⟩, ⟨by repeat (first | (with_reducible first | exact HI0.out | apply IsS99.alloc | apply IsS99.drewN | apply IsS99.drew | apply IsS99.set_1 | refine IsS99.far ?_ NB0_291.out _ | refine IsS99.far ?_ NB0_305.out _) | exact HI0.out)⟩, ⟨by repeat (first | (with_reducible first | exact HK.out | apply KeepBut.set_ | apply keep_drewN | apply keep_drew | apply keep_alloc | refine keep_far ?_ GW291.out _ | refine keep_far ?_ GW305.out _) | exact HK.out)⟩, ⟨by repeat (first | (with_reducible first | exact HB.out | apply below_alloc | apply pw_below_drewN | apply below_drew1 | refine below_set ?_ (IsS99.ge HI0.out) | refine below_set ?_ GE291.out | refine below_set ?_ GE305.out) | exact HB.out)⟩⟩
   revert H; refine ti_ (qfk_ fun c47 c47b0 c47b1 H => ?_) (qt_ fun c47b0 c47b1 H => ?_)
   ·revert H; refine ti_ (fun c68 H => ?_) fun c68 H => ?_
    ·have c68b0 : decide (0 < (x306001_4.length : Int)) = false := decide_eq_false c68
     have c68b1 : decide (0 < x306001_4.length) = false := decide_eq_false (by omega)
     clear c68
     have H' := mk_ H
     clear H
     have hnb81 := NB305_291.out
     have hnc81 := NB291_305.out
     have hnb82 := NB305_0.out
     have hnc82 := NB0_305.out
     have hcz83_0 : w33.cell? ⟨gb305, 0, none⟩ = some (.int .i64 x306000_4) := (blk_cell BK305.out 0).trans rfl
     have hcz83_1 : w33.cell? ⟨gb305, 1, none⟩ = some (u306001) := (blk_cell BK305.out 1).trans rfl
     have hfz83_0 := blk_frozen BK305.out 0
     have hfz83_1 := blk_frozen BK305.out 1
     obtain ⟨Ao84, co84, eo84⟩ := Kd.R_slice HO_306001.out
     subst eo84
     try go_wp2
     go_meet
     case rel => exact ⟨_, (t317), (x306000_4), (x306001_4), (.slice Ao84 x306001_4.length co84), H', ⟨by have := HJ4.out; first | omega | exact Nat.le_refl _⟩, ⟨Kd.S_below HO_9.out lt_⟩, ⟨Kd.R_below HO_10.out lt_⟩, ⟨Kd.R_below HO_306001.out lt_⟩, ⟨by refine bs_ ?_; exact BK291.out⟩, ⟨by refine bs_ ?_; exact BK305.out⟩, ⟨by repeat (first | (with_reducible first | exact HI0.out | apply IsS99.alloc | apply IsS99.drewN | apply IsS99.drew | apply IsS99.set_1 | refine IsS99.far ?_ NB0_291.out _ | refine IsS99.far ?_ NB0_305.out _) | exact HI0.out)⟩, ⟨by repeat (first | (with_reducible first | exact HK.out | apply KeepBut.set_ | apply keep_drewN | apply keep_drew | apply keep_alloc | refine keep_far ?_ GW291.out _ | refine keep_far ?_ GW305.out _) | exact HK.out)⟩, ⟨by repeat (first | (with_reducible first | exact HB.out | apply below_alloc | apply pw_below_drewN | apply below_drew1 | refine below_set ?_ (IsS99.ge HI0.out) | refine below_set ?_ GE291.out | refine below_set ?_ GE305.out) | exact HB.out)⟩⟩
    have c68b0 : decide (0 < (x306001_4.length : Int)) = true := decide_eq_true c68
    have c68b1 : decide (0 < x306001_4.length) = true := decide_eq_true (by omega)
    clear c68
    replace H := bm_ H; obtain ⟨⟨t330, t331⟩, A69, H⟩ := H
    try dsimp only at H
    revert H; refine g_ (fun c70 H => ?_)
    have c70b0 : decide (0 < (x306001_4.length : Int)) = true := decide_eq_true c70
    have c70b1 : decide (0 < x306001_4.length) = true := decide_eq_true (by omega)
    clear c70
    obtain ⟨y332, hy332⟩ : ∃ y_ : List (S68), y_ = (x306001_4.set (0 : Int).toNat (⟨(rd_T68 x306001_4 0).f0, wrap64 (t330 - 3), (rd_T68 x306001_4 0).f2⟩ : S68)) := ⟨_, rfl⟩
    first | (replace H := bn_ hy332 H; try dsimp only at H) | rw [← hy332] at H
    have Ny332 := mk_ hy332
    clear hy332
    have H' := mk_ H
    clear H
    have hnb73 := NB305_291.out
    have hnc73 := NB291_305.out
    have hnb74 := NB305_0.out
    have hnc74 := NB0_305.out
    have hcz75_0 : w33.cell? ⟨gb305, 0, none⟩ = some (.int .i64 x306000_4) := (blk_cell BK305.out 0).trans rfl
    have hcz75_1 : w33.cell? ⟨gb305, 1, none⟩ = some (u306001) := (blk_cell BK305.out 1).trans rfl
    have hfz75_0 := blk_frozen BK305.out 0
    have hfz75_1 := blk_frozen BK305.out 1
    obtain ⟨Ao76, co76, eo76⟩ := Kd.R_slice HO_306001.out
    subst eo76
    try go_wp2
    replace HO_9 := mk_ (Kd.S_drew HO_9.out)
    replace HO_10 := mk_ (Kd.R_drew HO_10.out)
    replace HO_306001 := mk_ (Kd.R_drew HO_306001.out)
    replace BK291 := mk_ (blk_drew BK291.out)
    replace BK305 := mk_ (blk_drew BK305.out)
    replace HI0 := mk_ (IsS99.drew HI0.out)
    replace HK := mk_ (keep_drew HK.out)
    replace HB := mk_ (below_drew1 HB.out)
    refine start_ (n := 8) (S := fun w' => w'.cell? ⟨gb305, 0, none⟩ = some (.int .i64 x306000_4) ∧ w'.cell? ⟨gb305, 1, none⟩ = some (.slice Ao76 x306001_4.length co76)) (ds := [7]) #[false, false, false, false, false, false, false, false] (by kernel_rfl) rfl rfl ⟨(blk_cell BK305.out 0).trans rfl, (blk_cell BK305.out 1).trans rfl⟩ (fun hHeld => ?_); refine with_tabW spec_l20Proof.tab9 spec_l20Proof.bits9 (fun HT_ HW_ => ?_)
    generalize w33.drew = w77 at HO_9 HO_10 HO_306001 BK291 BK305 HI0 HK HB hHeld ⊢
    refine pus_ 0 (some 46) (ao_ HT_) ?_
    refine pus_ 2 (some 48) (ao_ HT_) ?_
    refine tas_ 1 (some 47) (to_ HT_ HW_) hHeld ?_
    refine ons_ 3 (some 49) (oo_ HT_) (fun K hK => ?_)
    refine goes_ Tryd.func52 (by kernel_rfl) rfl #[.pointer (some ⟨g, 0, none⟩), .int .i64 5] (by rfl) rfl rfl gl_ ?_
    with_reducible refine (spec_l20Rd_pick.calls kj4 g s0_0 t317 5 t330 t331 w0 _ ?side1 ?side2 A69.out).mono ?_
    (case side1 => repeat (first | (with_reducible first | exact HI0.out | apply IsS99.alloc | apply IsS99.drewN | apply IsS99.drew | apply IsS99.set_1 | refine IsS99.far ?_ NB0_291.out _ | refine IsS99.far ?_ NB0_305.out _) | exact HI0.out))
    (case side2 => repeat (first | (with_reducible first | exact HB.out | apply below_alloc | apply pw_below_drewN | apply below_drew1 | refine below_set ?_ (IsS99.ge HI0.out) | refine below_set ?_ GE291.out | refine below_set ?_ GE305.out) | exact HB.out))
    rintro e w78 ⟨rfl, hi, hb, hk⟩
    refine ⟨_, rfl, ?_⟩
    replace HO_9 := mk_ (Kd.S_mono (Kd.S_keep (IsS99.apartS (show IsS99 w0 _ g s0_0 t317 from by repeat (first | (with_reducible first | exact HI0.out | apply IsS99.alloc | apply IsS99.drewN | apply IsS99.drew | apply IsS99.set_1 | refine IsS99.far ?_ NB0_291.out _ | refine IsS99.far ?_ NB0_305.out _) | exact HI0.out)) (Kd.S_below HO_9.out lt_) (by decide)) hk (fun _ h => h.2)) (fun _ h => h.1))
    replace HO_10 := mk_ (Kd.R_mono (Kd.R_keep (IsS99.apart (show IsS99 w0 _ g s0_0 t317 from by repeat (first | (with_reducible first | exact HI0.out | apply IsS99.alloc | apply IsS99.drewN | apply IsS99.drew | apply IsS99.set_1 | refine IsS99.far ?_ NB0_291.out _ | refine IsS99.far ?_ NB0_305.out _) | exact HI0.out)) (Kd.R_below HO_10.out lt_) (by decide)) hk (fun _ h => h.2)) (fun _ h => h.1))
    replace HO_306001 := mk_ (Kd.R_mono (Kd.R_keep (IsS99.apart (show IsS99 w0 _ g s0_0 t317 from by repeat (first | (with_reducible first | exact HI0.out | apply IsS99.alloc | apply IsS99.drewN | apply IsS99.drew | apply IsS99.set_1 | refine IsS99.far ?_ NB0_291.out _ | refine IsS99.far ?_ NB0_305.out _) | exact HI0.out)) (Kd.R_below HO_306001.out lt_) (by decide)) hk (fun _ h => h.2)) (fun _ h => h.1))
    replace BK291 := mk_ (KeepBut.blk hk (g' := gb291) (o := .cells #[.int .i64 0, .slice none 0 0] 27 (0, 0)) (bk_ BK291.out) NB291_0.out (by simp))
    replace BK305 := mk_ (KeepBut.blk hk (g' := gb305) (o := .cells #[.int .i64 x306000_4, .slice Ao76 x306001_4.length co76] 27 (0, 0)) (bk_ BK305.out) NB305_0.out (by simp))
    replace HK := mk_ (KeepBut.trans (by repeat (first | (with_reducible first | exact HK.out | apply KeepBut.set_ | apply keep_drewN | apply keep_drew | apply keep_alloc | refine keep_far ?_ GW291.out _ | refine keep_far ?_ GW305.out _) | exact HK.out)) hk (.inl rfl))
    replace HB := mk_ (hb)
    replace HI0 := mk_ (hi)
    (try clear hb)
    (try clear hb2)
    (try clear hk)
    (try clear hi)
    have p71 : 0 ≤ (0 : Int) := (by omega)
    have q71 : (0 : Int) < ((x306001_4.length : Int) : Int) := oa_
    have qi71 : (0 < x306001_4.length) = True := eq_true (by omega)
    obtain ⟨go71, co71, eo71, gb71, gl71, cl71, HG71⟩ := Kd.R_form HO_306001.out (by omega)
    (first | cases eo71 | (injection eo71 with ea_ en_ ec_; (first | subst ea_ | (injection ea_ with ea_; subst ea_)); subst ec_; clear en_))
    have GB71 := mk_ gb71
    have GG71 := mk_ HG71
    clear gb71 gl71 HG71
    obtain ⟨ce71, hcl71, hM71, hcc71, hfr71⟩ := Kd.R_elem HO_306001.out z68 (0 : Int) p71 q71
    obtain rfl := k68_openM hM71
    have hx71_0 : World.cell? _ ⟨go71, (0 : Int).toNat * 3, none⟩ = some (.int .i64 ((rd_T68 x306001_4 0).f0)) := hcc71 0 _ rfl
    have hx71_1 : World.cell? _ ⟨go71, (0 : Int).toNat * 3 + 1, none⟩ = some (.int .i64 ((rd_T68 x306001_4 0).f1)) := hcc71 1 _ rfl
    have hx71_2 : World.cell? _ ⟨go71, (0 : Int).toNat * 3 + 2, none⟩ = some (.int .i64 ((rd_T68 x306001_4 0).f2)) := hcc71 2 _ rfl
    have hf71_0 : World.frozen? _ ⟨go71, (0 : Int).toNat * 3, none⟩ = false := hfr71 0
    have hf71_1 : World.frozen? _ ⟨go71, (0 : Int).toNat * 3 + 1, none⟩ = false := hfr71 1
    have hf71_2 : World.frozen? _ ⟨go71, (0 : Int).toNat * 3 + 2, none⟩ = false := hfr71 2
    (try clear hM71); clear hcl71 hcc71 hfr71
    (try rw [show ((0 : Int)).toNat = 0 from rfl] at hx71_0)
    (try simp only [Nat.reduceMul, Nat.zero_mul, Nat.zero_add, Nat.reduceAdd] at hx71_0)
    (try rw [show ((0 : Int)).toNat = 0 from rfl] at hf71_0)
    (try simp only [Nat.reduceMul, Nat.zero_mul, Nat.zero_add, Nat.reduceAdd] at hf71_0)
    (try rw [show ((0 : Int)).toNat = 0 from rfl] at hx71_1)
    (try simp only [Nat.reduceMul, Nat.zero_mul, Nat.zero_add, Nat.reduceAdd] at hx71_1)
    (try rw [show ((0 : Int)).toNat = 0 from rfl] at hf71_1)
    (try simp only [Nat.reduceMul, Nat.zero_mul, Nat.zero_add, Nat.reduceAdd] at hf71_1)
    (try rw [show ((0 : Int)).toNat = 0 from rfl] at hx71_2)
    (try simp only [Nat.reduceMul, Nat.zero_mul, Nat.zero_add, Nat.reduceAdd] at hx71_2)
    (try rw [show ((0 : Int)).toNat = 0 from rfl] at hf71_2)
    (try simp only [Nat.reduceMul, Nat.zero_mul, Nat.zero_add, Nat.reduceAdd] at hf71_2)
    replace p71 := eq_true p71
    replace q71 := eq_true q71
    have HN0_go71 := mk_ (show g ≠ go71 from by have h_ := IsS99.own_ne HI0.out HO_306001.out (by decide); intro e_; exact h_ (by rw [e_]; rfl))
    obtain ⟨ce79, hcl79, hM79, hcc79, hfr79⟩ := Kd.R_elem HO_306001.out z68 (0 : Int) (by omega) (by have h_ : (0 : Int) < ((x306001_4.length : Int) : Int) := oa_; first | exact h_ | (have e_ := (Kd.R_reads' HO_306001.out).1; omega) | simpa using h_)
    obtain rfl := k68_openM hM79
    have HP79 := (Kd.R_seg HO_306001.out (0 : Int) (by omega) (by have h_ : (0 : Int) < ((x306001_4.length : Int) : Int) := oa_; first | exact h_ | (have e_ := (Kd.R_reads' HO_306001.out).1; omega) | simpa using h_) (seg := [.int .i64 (wrap64 (t330 - 3))]) (j := 1) hcl79 hcc79 (show 2 ≤ 3 from by decide) (x' := (⟨(rd_T68 x306001_4 0).f0, wrap64 (t330 - 3), (rd_T68 x306001_4 0).f2⟩ : S68)) (k68_mkM _ _ _ (⟨(rd_T68 x306001_4 0).f0, wrap64 (t330 - 3), (rd_T68 x306001_4 0).f2⟩ : S68) ) (fun _ hk => hk)).1
    rw [← Ny332.out] at HP79
    have HQ79 := mk_ HP79
    (try clear hM79); clear hcl79 hcc79 hfr79 HP79
    refine hK.out _ _ ⟨(blk_cell BK305.out 0).trans rfl, (blk_cell BK305.out 1).trans rfl⟩ (fun hHeld => ?_)
    clear hK K
    refine nor_ (some 49) ?_
    refine pus_ 4 (some 50) (ao_ HT_) ?_
    refine pus_ 5 (some 51) (ao_ HT_) ?_
    refine pus_ 6 (some 52) (ao_ HT_) ?_
    refine last_ (i := 7) (N := none) #[true, true, true, true, true, true, true, true] rfl rfl (one_of HT_.out (by kernel_rfl)) (by decide) (fun K hK => ?_)
    refine skip_ (w1 := ?_) (by rfl) rfl ?_ ?_
    rotate_left
    ·go_simp
     rfl
    refine hK.out _ _ ?_
    clear hK K
    refine done_ (done_of HT_.out (by kernel_rfl)) ?_
    try go_wp2
    go_meet
    case rel => exact ⟨_, (t331), (x306000_4), (y332), (.slice (some ⟨go71, 0, none⟩) x306001_4.length co76), H', ⟨by have := HJ4.out; first | omega | exact Nat.le_refl _⟩, ⟨by (with_reducible repeat (first | apply Kd.S_alloc | apply Kd.S_drewN | apply Kd.S_drew)); exact Kd.S_mono (Kd.S_far (p := ⟨go71, 1, none⟩) (Kd.S_types HO_9.out GG71.out (by decide)) (fun _ hk => hk.2) (.int .i64 (wrap64 (t330 - 3)))) (fun _ hk => hk.1)⟩, ⟨by (with_reducible repeat (first | apply Kd.R_alloc | apply Kd.R_drewN | apply Kd.R_drew)); exact Kd.R_mono (Kd.R_far (p := ⟨go71, 1, none⟩) (Kd.R_types HO_10.out GG71.out (by decide)) (fun _ hk => hk.2) (.int .i64 (wrap64 (t330 - 3)))) (fun _ hk => trivial)⟩, ⟨by exact HQ79.out⟩, ⟨by refine bs_ ?_; refine blk_far ?_ (by have h_ := Kd.R_ne HO_306001.out BK291.out (by decide); intro e_; exact h_ (by rw [e_]; rfl)) _; refine bs_ ?_; exact BK291.out⟩, ⟨by refine bs_ ?_; refine blk_far ?_ (by have h_ := Kd.R_ne HO_306001.out BK305.out (by decide); intro e_; exact h_ (by rw [e_]; rfl)) _; refine bs_ ?_; exact BK305.out⟩, ⟨by repeat (first | (with_reducible first | exact HI0.out | apply IsS99.alloc | apply IsS99.drewN | apply IsS99.drew | apply IsS99.set_1 | refine IsS99.far ?_ HN0_go71.out _ | refine IsS99.far ?_ NB0_291.out _ | refine IsS99.far ?_ NB0_305.out _) | exact HI0.out)⟩, ⟨by repeat (first | (with_reducible first | exact HK.out | apply KeepBut.set_ | apply keep_drewN | apply keep_drew | apply keep_alloc | refine keep_far ?_ GB71.out _ | refine keep_far ?_ GW291.out _ | refine keep_far ?_ GW305.out _) | exact HK.out)⟩, ⟨by repeat (first | (with_reducible first | exact HB.out | apply below_alloc | apply pw_below_drewN | apply below_drew1 | refine below_set ?_ (Nat.le_trans HL.out GB71.out) | refine below_set ?_ (IsS99.ge HI0.out) | refine below_set ?_ GE291.out | refine below_set ?_ GE305.out) | exact HB.out)⟩⟩
   revert H; refine ti_ (fun c48 H => ?_) fun c48 H => ?_
   ·have c48b0 : decide (0 < (x306001_4.length : Int)) = false := decide_eq_false c48
    have c48b1 : decide (0 < x306001_4.length) = false := decide_eq_false (by omega)
    clear c48
    have H' := mk_ H
    clear H
    have hnb64 := NB305_291.out
    have hnc64 := NB291_305.out
    have hnb65 := NB305_0.out
    have hnc65 := NB0_305.out
    have hcz66_0 : w33.cell? ⟨gb305, 0, none⟩ = some (.int .i64 x306000_4) := (blk_cell BK305.out 0).trans rfl
    have hcz66_1 : w33.cell? ⟨gb305, 1, none⟩ = some (u306001) := (blk_cell BK305.out 1).trans rfl
    have hfz66_0 := blk_frozen BK305.out 0
    have hfz66_1 := blk_frozen BK305.out 1
    obtain ⟨Ao67, co67, eo67⟩ := Kd.R_slice HO_306001.out
    subst eo67
    try go_wp2
    go_meet
    case rel => exact ⟨_, (t317), (x306000_4), (x306001_4), (.slice Ao67 x306001_4.length co67), H', ⟨by have := HJ4.out; first | omega | exact Nat.le_refl _⟩, ⟨Kd.S_below HO_9.out lt_⟩, ⟨Kd.R_below HO_10.out lt_⟩, ⟨Kd.R_below HO_306001.out lt_⟩, ⟨by refine bs_ ?_; exact BK291.out⟩, ⟨by refine bs_ ?_; exact BK305.out⟩, ⟨by repeat (first | (with_reducible first | exact HI0.out | apply IsS99.alloc | apply IsS99.drewN | apply IsS99.drew | apply IsS99.set_1 | refine IsS99.far ?_ NB0_291.out _ | refine IsS99.far ?_ NB0_305.out _) | exact HI0.out)⟩, ⟨by repeat (first | (with_reducible first | exact HK.out | apply KeepBut.set_ | apply keep_drewN | apply keep_drew | apply keep_alloc | refine keep_far ?_ GW291.out _ | refine keep_far ?_ GW305.out _) | exact HK.out)⟩, ⟨by repeat (first | (with_reducible first | exact HB.out | apply below_alloc | apply pw_below_drewN | apply below_drew1 | refine below_set ?_ (IsS99.ge HI0.out) | refine below_set ?_ GE291.out | refine below_set ?_ GE305.out) | exact HB.out)⟩⟩
   have c48b0 : decide (0 < (x306001_4.length : Int)) = true := decide_eq_true c48
   have c48b1 : decide (0 < x306001_4.length) = true := decide_eq_true (by omega)
   clear c48
   replace H := bm_ H; obtain ⟨⟨t325, t326⟩, A49, H⟩ := H
   try dsimp only at H
   replace H := bm_ H; obtain ⟨⟨t327, t328⟩, A50, H⟩ := H
   try dsimp only at H
   revert H; refine g_ (dt_ fun c51b0 => g_ (dt_ fun c52b0 H => ?_))
   obtain ⟨y329, hy329⟩ : ∃ y_ : List (S68), y_ = (x306001_4.set (t325 : Int).toNat (⟨t327, (rd_T68 x306001_4 t325).f1, (rd_T68 x306001_4 t325).f2⟩ : S68)) := ⟨_, rfl⟩
   first | (replace H := bn_ hy329 H; try dsimp only at H) | rw [← hy329] at H
   have Ny329 := mk_ hy329
   clear hy329
   have H' := mk_ H
   clear H
   have hnb55 := NB305_291.out
   have hnc55 := NB291_305.out
   have hnb56 := NB305_0.out
   have hnc56 := NB0_305.out
   have hcz57_0 : w33.cell? ⟨gb305, 0, none⟩ = some (.int .i64 x306000_4) := (blk_cell BK305.out 0).trans rfl
   have hcz57_1 : w33.cell? ⟨gb305, 1, none⟩ = some (u306001) := (blk_cell BK305.out 1).trans rfl
   have hfz57_0 := blk_frozen BK305.out 0
   have hfz57_1 := blk_frozen BK305.out 1
   obtain ⟨Ao58, co58, eo58⟩ := Kd.R_slice HO_306001.out
   subst eo58
   try go_wp2
   replace HO_9 := mk_ (Kd.S_drew HO_9.out)
   replace HO_10 := mk_ (Kd.R_drew HO_10.out)
   replace HO_306001 := mk_ (Kd.R_drew HO_306001.out)
   replace BK291 := mk_ (blk_drew BK291.out)
   replace BK305 := mk_ (blk_drew BK305.out)
   replace HI0 := mk_ (IsS99.drew HI0.out)
   replace HK := mk_ (keep_drew HK.out)
   replace HB := mk_ (below_drew1 HB.out)
   refine start_ (n := 12) (S := fun w' => w'.cell? ⟨gb305, 0, none⟩ = some (.int .i64 x306000_4) ∧ w'.cell? ⟨gb305, 1, none⟩ = some (.slice Ao58 x306001_4.length co58)) (ds := [11]) #[false, false, false, false, false, false, false, false, false, false, false, false] (by kernel_rfl) rfl rfl ⟨(blk_cell BK305.out 0).trans rfl, (blk_cell BK305.out 1).trans rfl⟩ (fun hHeld => ?_); refine with_tabW spec_l20Proof.tab16 spec_l20Proof.bits16 (fun HT_ HW_ => ?_)
   generalize w33.drew = w59 at HO_9 HO_10 HO_306001 BK291 BK305 HI0 HK HB hHeld ⊢
   refine pus_ 0 (some 75) (ao_ HT_) ?_
   refine pus_ 2 (some 77) (ao_ HT_) ?_
   refine pus_ 3 (some 78) (ao_ HT_) ?_
   refine pus_ 7 (some 82) (ao_ HT_) ?_
   refine tas_ 1 (some 76) (to_ HT_ HW_) hHeld ?_
   refine tas_ 4 (some 79) (to_ HT_ HW_) hHeld ?_
   refine pus_ 5 (some 80) (ao_ HT_) ?_
   refine ons_ 6 (some 81) (oo_ HT_) (fun K hK => ?_)
   refine goes_ Tryd.func52 (by kernel_rfl) rfl #[.pointer (some ⟨g, 0, none⟩), .int .i64 (x306001_4.length : Int)] (by rfl) rfl rfl gl_ ?_
   with_reducible refine (spec_l20Rd_pick.calls kj4 g s0_0 t317 (x306001_4.length : Int) t325 t326 w0 _ ?side1 ?side2 A49.out).mono ?_
   (case side1 => repeat (first | (with_reducible first | exact HI0.out | apply IsS99.alloc | apply IsS99.drewN | apply IsS99.drew | apply IsS99.set_1 | refine IsS99.far ?_ NB0_291.out _ | refine IsS99.far ?_ NB0_305.out _) | exact HI0.out))
   (case side2 => repeat (first | (with_reducible first | exact HB.out | apply below_alloc | apply pw_below_drewN | apply below_drew1 | refine below_set ?_ (IsS99.ge HI0.out) | refine below_set ?_ GE291.out | refine below_set ?_ GE305.out) | exact HB.out))
   rintro e w60 ⟨rfl, hi, hb, hk⟩
   refine ⟨_, rfl, ?_⟩
   replace HO_9 := mk_ (Kd.S_mono (Kd.S_keep (IsS99.apartS (show IsS99 w0 _ g s0_0 t317 from by repeat (first | (with_reducible first | exact HI0.out | apply IsS99.alloc | apply IsS99.drewN | apply IsS99.drew | apply IsS99.set_1 | refine IsS99.far ?_ NB0_291.out _ | refine IsS99.far ?_ NB0_305.out _) | exact HI0.out)) (Kd.S_below HO_9.out lt_) (by decide)) hk (fun _ h => h.2)) (fun _ h => h.1))
   replace HO_10 := mk_ (Kd.R_mono (Kd.R_keep (IsS99.apart (show IsS99 w0 _ g s0_0 t317 from by repeat (first | (with_reducible first | exact HI0.out | apply IsS99.alloc | apply IsS99.drewN | apply IsS99.drew | apply IsS99.set_1 | refine IsS99.far ?_ NB0_291.out _ | refine IsS99.far ?_ NB0_305.out _) | exact HI0.out)) (Kd.R_below HO_10.out lt_) (by decide)) hk (fun _ h => h.2)) (fun _ h => h.1))
   replace HO_306001 := mk_ (Kd.R_mono (Kd.R_keep (IsS99.apart (show IsS99 w0 _ g s0_0 t317 from by repeat (first | (with_reducible first | exact HI0.out | apply IsS99.alloc | apply IsS99.drewN | apply IsS99.drew | apply IsS99.set_1 | refine IsS99.far ?_ NB0_291.out _ | refine IsS99.far ?_ NB0_305.out _) | exact HI0.out)) (Kd.R_below HO_306001.out lt_) (by decide)) hk (fun _ h => h.2)) (fun _ h => h.1))
   replace BK291 := mk_ (KeepBut.blk hk (g' := gb291) (o := .cells #[.int .i64 0, .slice none 0 0] 27 (0, 0)) (bk_ BK291.out) NB291_0.out (by simp))
   replace BK305 := mk_ (KeepBut.blk hk (g' := gb305) (o := .cells #[.int .i64 x306000_4, .slice Ao58 x306001_4.length co58] 27 (0, 0)) (bk_ BK305.out) NB305_0.out (by simp))
   replace HK := mk_ (KeepBut.trans (by repeat (first | (with_reducible first | exact HK.out | apply KeepBut.set_ | apply keep_drewN | apply keep_drew | apply keep_alloc | refine keep_far ?_ GW291.out _ | refine keep_far ?_ GW305.out _) | exact HK.out)) hk (.inl rfl))
   replace HB := mk_ (hb)
   replace HI0 := mk_ (hi)
   (try clear hb)
   (try clear hb2)
   (try clear hk)
   (try clear hi)
   refine hK.out _ _ ⟨(blk_cell BK305.out 0).trans rfl, (blk_cell BK305.out 1).trans rfl⟩ (fun hHeld => ?_)
   clear hK K
   refine nor_ (some 81) ?_
   refine ons_ 8 (some 83) (oo_ HT_) (fun K hK => ?_)
   refine goes_ Tryd.func52 (by kernel_rfl) rfl #[.pointer (some ⟨g, 0, none⟩), .int .i64 5] (by rfl) rfl rfl gl_ ?_
   with_reducible refine (spec_l20Rd_pick.calls kj4 g s0_0 t326 5 t327 t328 w0 _ ?side1 ?side2 A50.out).mono ?_
   (case side1 => repeat (first | (with_reducible first | exact HI0.out | apply IsS99.alloc | apply IsS99.drewN | apply IsS99.drew | apply IsS99.set_1 | refine IsS99.far ?_ NB0_291.out _ | refine IsS99.far ?_ NB0_305.out _) | exact HI0.out))
   (case side2 => repeat (first | (with_reducible first | exact HB.out | apply below_alloc | apply pw_below_drewN | apply below_drew1 | refine below_set ?_ (IsS99.ge HI0.out) | refine below_set ?_ GE291.out | refine below_set ?_ GE305.out) | exact HB.out))
   rintro e w61 ⟨rfl, hi, hb, hk⟩
   refine ⟨_, rfl, ?_⟩
   replace HO_9 := mk_ (Kd.S_mono (Kd.S_keep (IsS99.apartS (show IsS99 w0 _ g s0_0 t326 from by repeat (first | (with_reducible first | exact HI0.out | apply IsS99.alloc | apply IsS99.drewN | apply IsS99.drew | apply IsS99.set_1 | refine IsS99.far ?_ NB0_291.out _ | refine IsS99.far ?_ NB0_305.out _) | exact HI0.out)) (Kd.S_below HO_9.out lt_) (by decide)) hk (fun _ h => h.2)) (fun _ h => h.1))
   replace HO_10 := mk_ (Kd.R_mono (Kd.R_keep (IsS99.apart (show IsS99 w0 _ g s0_0 t326 from by repeat (first | (with_reducible first | exact HI0.out | apply IsS99.alloc | apply IsS99.drewN | apply IsS99.drew | apply IsS99.set_1 | refine IsS99.far ?_ NB0_291.out _ | refine IsS99.far ?_ NB0_305.out _) | exact HI0.out)) (Kd.R_below HO_10.out lt_) (by decide)) hk (fun _ h => h.2)) (fun _ h => h.1))
   replace HO_306001 := mk_ (Kd.R_mono (Kd.R_keep (IsS99.apart (show IsS99 w0 _ g s0_0 t326 from by repeat (first | (with_reducible first | exact HI0.out | apply IsS99.alloc | apply IsS99.drewN | apply IsS99.drew | apply IsS99.set_1 | refine IsS99.far ?_ NB0_291.out _ | refine IsS99.far ?_ NB0_305.out _) | exact HI0.out)) (Kd.R_below HO_306001.out lt_) (by decide)) hk (fun _ h => h.2)) (fun _ h => h.1))
   replace BK291 := mk_ (KeepBut.blk hk (g' := gb291) (o := .cells #[.int .i64 0, .slice none 0 0] 27 (0, 0)) (bk_ BK291.out) NB291_0.out (by simp))
   replace BK305 := mk_ (KeepBut.blk hk (g' := gb305) (o := .cells #[.int .i64 x306000_4, .slice Ao58 x306001_4.length co58] 27 (0, 0)) (bk_ BK305.out) NB305_0.out (by simp))
   replace HK := mk_ (KeepBut.trans (by repeat (first | (with_reducible first | exact HK.out | apply KeepBut.set_ | apply keep_drewN | apply keep_drew | apply keep_alloc | refine keep_far ?_ GW291.out _ | refine keep_far ?_ GW305.out _) | exact HK.out)) hk (.inl rfl))
   replace HB := mk_ (hb)
   replace HI0 := mk_ (hi)
   (try clear hb)
   (try clear hb2)
   (try clear hk)
   (try clear hi)
   have p53 : 0 ≤ (t325 : Int) := oa_
   have q53 : (t325 : Int) < ((x306001_4.length : Int) : Int) := oa_
   obtain ⟨go53, co53, eo53, gb53, gl53, cl53, HG53⟩ := Kd.R_form HO_306001.out (by omega)
   (first | cases eo53 | (injection eo53 with ea_ en_ ec_; (first | subst ea_ | (injection ea_ with ea_; subst ea_)); subst ec_; clear en_))
   have GB53 := mk_ gb53
   have GG53 := mk_ HG53
   clear gb53 gl53 HG53
   obtain ⟨ce53, hcl53, hM53, hcc53, hfr53⟩ := Kd.R_elem HO_306001.out z68 (t325 : Int) p53 q53
   obtain rfl := k68_openM hM53
   have hx53_0 : World.cell? _ ⟨go53, (t325 : Int).toNat * 3, none⟩ = some (.int .i64 ((rd_T68 x306001_4 t325).f0)) := hcc53 0 _ rfl
   have hx53_1 : World.cell? _ ⟨go53, (t325 : Int).toNat * 3 + 1, none⟩ = some (.int .i64 ((rd_T68 x306001_4 t325).f1)) := hcc53 1 _ rfl
   have hx53_2 : World.cell? _ ⟨go53, (t325 : Int).toNat * 3 + 2, none⟩ = some (.int .i64 ((rd_T68 x306001_4 t325).f2)) := hcc53 2 _ rfl
   have hf53_0 : World.frozen? _ ⟨go53, (t325 : Int).toNat * 3, none⟩ = false := hfr53 0
   have hf53_1 : World.frozen? _ ⟨go53, (t325 : Int).toNat * 3 + 1, none⟩ = false := hfr53 1
   have hf53_2 : World.frozen? _ ⟨go53, (t325 : Int).toNat * 3 + 2, none⟩ = false := hfr53 2
   (try clear hM53); clear hcl53 hcc53 hfr53
   replace p53 := eq_true p53
   replace q53 := eq_true q53
   have HN0_go53 := mk_ (show g ≠ go53 from by have h_ := IsS99.own_ne HI0.out HO_306001.out (by decide); intro e_; exact h_ (by rw [e_]; rfl))
   obtain ⟨ce62, hcl62, hM62, hcc62, hfr62⟩ := Kd.R_elem HO_306001.out z68 (t325 : Int) (oa_) (by have h_ : (t325 : Int) < ((x306001_4.length : Int) : Int) := oa_; first | exact h_ | (have e_ := (Kd.R_reads' HO_306001.out).1; omega) | simpa using h_)
   obtain rfl := k68_openM hM62
   have HP62 := (Kd.R_seg HO_306001.out (t325 : Int) (oa_) (by have h_ : (t325 : Int) < ((x306001_4.length : Int) : Int) := oa_; first | exact h_ | (have e_ := (Kd.R_reads' HO_306001.out).1; omega) | simpa using h_) (seg := [.int .i64 t327]) (j := 0) hcl62 hcc62 (show 1 ≤ 3 from by decide) (x' := (⟨t327, (rd_T68 x306001_4 t325).f1, (rd_T68 x306001_4 t325).f2⟩ : S68)) (k68_mkM _ _ _ (⟨t327, (rd_T68 x306001_4 t325).f1, (rd_T68 x306001_4 t325).f2⟩ : S68) ) (fun _ hk => hk)).1
   rw [← Ny329.out] at HP62
   have HQ62 := mk_ HP62
   (try clear hM62); clear hcl62 hcc62 hfr62 HP62
   refine hK.out _ _ ⟨(blk_cell BK305.out 0).trans rfl, (blk_cell BK305.out 1).trans rfl⟩ (fun hHeld => ?_)
   clear hK K
   refine nor_ (some 83) ?_
   refine pus_ 9 (some 84) (ao_ HT_) ?_
   refine pus_ 10 (some 85) (ao_ HT_) ?_
   refine last_ (i := 11) (N := none) #[true, true, true, true, true, true, true, true, true, true, true, true] rfl rfl (one_of HT_.out (by kernel_rfl)) (by decide) (fun K hK => ?_)
   refine skip_ (w1 := ?_) (by rfl) rfl ?_ ?_
   rotate_left
   ·go_simp
    rfl
   refine hK.out _ _ ?_
   clear hK K
   refine done_ (done_of HT_.out (by kernel_rfl)) ?_
   try go_wp2
   go_meet
   case rel => exact ⟨_, (t328), (x306000_4), (y329), (.slice (some ⟨go53, 0, none⟩) x306001_4.length co58), H', ⟨by have := HJ4.out; first | omega | exact Nat.le_refl _⟩, ⟨by (with_reducible repeat (first | apply Kd.S_alloc | apply Kd.S_drewN | apply Kd.S_drew)); exact Kd.S_mono (Kd.S_far (p := ⟨go53, (t325 : Int).toNat * 3, none⟩) (Kd.S_types HO_9.out GG53.out (by decide)) (fun _ hk => hk.2) (.int .i64 t327)) (fun _ hk => hk.1)⟩, ⟨by (with_reducible repeat (first | apply Kd.R_alloc | apply Kd.R_drewN | apply Kd.R_drew)); exact Kd.R_mono (Kd.R_far (p := ⟨go53, (t325 : Int).toNat * 3, none⟩) (Kd.R_types HO_10.out GG53.out (by decide)) (fun _ hk => hk.2) (.int .i64 t327)) (fun _ hk => trivial)⟩, ⟨by exact HQ62.out⟩, ⟨by refine bs_ ?_; refine blk_far ?_ (by have h_ := Kd.R_ne HO_306001.out BK291.out (by decide); intro e_; exact h_ (by rw [e_]; rfl)) _; refine bs_ ?_; exact BK291.out⟩, ⟨by refine bs_ ?_; refine blk_far ?_ (by have h_ := Kd.R_ne HO_306001.out BK305.out (by decide); intro e_; exact h_ (by rw [e_]; rfl)) _; refine bs_ ?_; exact BK305.out⟩, ⟨by repeat (first | (with_reducible first | exact HI0.out | apply IsS99.alloc | apply IsS99.drewN | apply IsS99.drew | apply IsS99.set_1 | refine IsS99.far ?_ HN0_go53.out _ | refine IsS99.far ?_ NB0_291.out _ | refine IsS99.far ?_ NB0_305.out _) | exact HI0.out)⟩, ⟨by repeat (first | (with_reducible first | exact HK.out | apply KeepBut.set_ | apply keep_drewN | apply keep_drew | apply keep_alloc | refine keep_far ?_ GB53.out _ | refine keep_far ?_ GW291.out _ | refine keep_far ?_ GW305.out _) | exact HK.out)⟩, ⟨by repeat (first | (with_reducible first | exact HB.out | apply below_alloc | apply pw_below_drewN | apply below_drew1 | refine below_set ?_ (Nat.le_trans HL.out GB53.out) | refine below_set ?_ (IsS99.ge HI0.out) | refine below_set ?_ GE291.out | refine below_set ?_ GE305.out) | exact HB.out)⟩⟩
  clear HC27
  try clear c2
  try clear p2
  try clear c3
  try clear c4
  try clear c5
  try clear p5
  try clear q5
  try clear hx5
  try clear hf5
  try clear c6
  try clear p6
  try clear c7
  try clear p7
  try clear q7
  try clear hx7
  try clear qi7
  try clear hf7
  try clear c8
  try clear c29
  try clear c38
  try clear c38b0
  try clear c38b1
  try clear c40
  try clear c47
  try clear c47b0
  try clear c47b1
  try clear c48
  try clear c48b0
  try clear c48b1
  try clear c51
  try clear c51b0
  try clear c52
  try clear c52b0
  try clear c53
  try clear p53
  try clear q53
  try clear hx53
  try clear hf53
  try clear c55
  try clear c56
  try clear c62
  try clear c64
  try clear p64
  try clear c65
  try clear c68
  try clear c68b0
  try clear c68b1
  try clear c70
  try clear c70b0
  try clear c70b1
  try clear c71
  try clear p71
  try clear q71
  try clear hx71
  try clear qi71
  try clear hf71
  try clear c73
  try clear c74
  try clear c79
  try clear c81
  try clear c82
  try clear hcz57_0
  try clear hcz57_1
  try clear hcz66_0
  try clear hcz66_1
  try clear hcz75_0
  try clear hcz75_1
  try clear hcz83_0
  try clear hcz83_1
  try clear hfz57_0
  try clear hfz57_1
  try clear hfz66_0
  try clear hfz66_1
  try clear hfz75_0
  try clear hfz75_1
  try clear hfz83_0
  try clear hfz83_1
  try clear hx53_0
  try clear hx53_1
  try clear hx53_2
  try clear hx71_0
  try clear hx71_1
  try clear hx71_2
  try clear p53
  try clear p71
  try clear q53
  try clear q71
  obtain ⟨kq, x1001_26, x306000_26, x306001_26, u306001, HA, HJ26, HO_9, HO_10, HO_306001, BK291, BK305, HI0, HK, HB⟩ := hcut
  cases kq with
  | zero => exact absurd HA.out (by simp [spec_l20Proof.j1])
  | succ kj26 =>
   have H := HA.out
   clear HA
   simp only [spec_l20Proof.j1] at H
   simp only [Option.some.injEq, Prod.mk.injEq] at H
   obtain ⟨rfl, rfl, rfl, rfl, rfl, rfl⟩ := H
   try go_wp2
   replace HO_9 := mk_ (Kd.S_drew HO_9.out)
   replace HO_10 := mk_ (Kd.R_drew HO_10.out)
   replace HO_306001 := mk_ (Kd.R_drew HO_306001.out)
   replace BK291 := mk_ (blk_drew BK291.out)
   replace BK305 := mk_ (blk_drew BK305.out)
   replace HI0 := mk_ (IsS99.drew HI0.out)
   replace HK := mk_ (keep_drew HK.out)
   replace HB := mk_ (below_drew1 HB.out)
   obtain ⟨Ao87, co87, eo87⟩ := Kd.R_slice HO_306001.out
   (first | subst eo87 | (injection eo87 with f1_ f2_ f3_; have f4_ := f1_.symm; have f5_ := f3_.symm; clear f1_ f2_ f3_; subst f4_; subst f5_))
   refine start_ (n := 8) (S := fun w' => w'.cell? ⟨gb305, 0, none⟩ = some (.int .i64 x306000_26) ∧ w'.cell? ⟨gb305, 1, none⟩ = some (.slice Ao87 x306001_26.length co87)) (ds := []) #[false, false, false, false, false, false, false, false] (by kernel_rfl) rfl rfl ⟨(blk_cell BK305.out 0).trans rfl, (blk_cell BK305.out 1).trans rfl⟩ (fun hHeld => ?_); refine with_tabW spec_l20Proof.tab17 spec_l20Proof.bits17 (fun HT_ HW_ => ?_)
   generalize wc.drew = w85 at HO_9 HO_10 HO_306001 BK291 HI0 HK HB hHeld ⊢
   refine pus_ 0 (some 86) (ao_ HT_) ?_
   refine pus_ 1 (some 87) (ao_ HT_) ?_
   refine pus_ 2 (some 88) (ao_ HT_) ?_
   refine pus_ 4 (some 4) (ao_ HT_) ?_
   refine pus_ 5 (some 5) (ao_ HT_) ?_
   refine pus_ 6 (some 6) (ao_ HT_) ?_
   refine tas_ 3 (some 89) (to_ HT_ HW_) hHeld ?_
   refine ons_ 7 none (oo_ HT_) (fun K hK => ?_)
   have hs86 : w85.cell? ⟨gb291, 0, none⟩ = some (.int .i64 0) := (blk_cell BK291.out 0).trans rfl
   have hfs86 := blk_frozen BK291.out 0
   have hns86_1 := NB305_291.out
   have hms86_1 := NB291_305.out
   have hs88 : w85.cell? ⟨gb291, 1, none⟩ = some (.slice none 0 0) := (blk_cell BK291.out 1).trans rfl
   have hfs88 := blk_frozen BK291.out 1
   have hns88_1 := NB305_291.out
   have hms88_1 := NB291_305.out
   refine skip_ (w1 := ?_) (by rfl) rfl ?_ ?_
   rotate_left
   ·go_simp
    rfl
   refine hK.out _ _ ⟨((cell_far (p := ⟨gb291, _, none⟩) NB305_291.out _).trans (((cell_far (p := ⟨gb291, _, none⟩) NB305_291.out _).trans (hHeld.1)))), ((cell_far (p := ⟨gb291, _, none⟩) NB305_291.out _).trans (((cell_far (p := ⟨gb291, _, none⟩) NB305_291.out _).trans (hHeld.2))))⟩ (fun hHeld => ?_)
   clear hK K
   refine done_ (done_of HT_.out (by kernel_rfl)) ?_
   try go_wp2
   refine bodyPost_ret (results_list (rs := [.tmp 4, .tmp 5, .tmp 6, .cell 7 27]) rfl (by simp) (.tmp (.tmp (.tmp (.cell gb291 27 #[.int .i64 x306000_26, .slice Ao87 x306001_26.length co87] (0, 0) _ rfl (by refine bs_ ?_; refine blk_put (cs := #[.int .i64 x306000_26, .slice none 0 0]) ?_ 1 _ rfl; refine bs_ ?_; refine blk_put (cs := #[.int .i64 0, .slice none 0 0]) ?_ 0 _ rfl; refine bs_ ?_; exact BK291.out) Tryd.underlying27 rfl (by kernel_rfl) .nil))))) rfl ?_
   exact ⟨_, _, _, er_, by (with_reducible repeat (first | apply Kd.S_alloc | apply Kd.S_drewN | apply Kd.S_drew)); exact Kd.S_mono (Kd.S_far (p := ⟨gb291, 1, none⟩) (Kd.S_far (p := ⟨gb291, 0, none⟩) (Kd.S_types HO_9.out BK291.out (by decide)) (fun _ hk => hk.2) (.int .i64 x306000_26)) (fun _ hk => hk.2) (.slice Ao87 x306001_26.length co87)) (fun _ hk => hk.1), by (with_reducible repeat (first | apply Kd.R_alloc | apply Kd.R_drewN | apply Kd.R_drew)); exact Kd.R_mono (Kd.R_far (p := ⟨gb291, 1, none⟩) (Kd.R_far (p := ⟨gb291, 0, none⟩) (Kd.R_types HO_10.out BK291.out (by decide)) (fun _ hk => hk.2) (.int .i64 x306000_26)) (fun _ hk => hk.2) (.slice Ao87 x306001_26.length co87)) (fun _ hk => trivial), by (with_reducible repeat (first | apply Kd.R_alloc | apply Kd.R_drewN | apply Kd.R_drew)); exact Kd.R_mono (Kd.R_far (p := ⟨gb291, 1, none⟩) (Kd.R_far (p := ⟨gb291, 0, none⟩) (Kd.R_types HO_306001.out BK291.out (by decide)) (fun _ hk => hk.2) (.int .i64 x306000_26)) (fun _ hk => hk.2) (.slice Ao87 x306001_26.length co87)) (fun _ hk => trivial), by repeat (first | (with_reducible first | exact HI0.out | apply IsS99.alloc | apply IsS99.drewN | apply IsS99.drew | apply IsS99.set_1 | refine IsS99.far ?_ NB0_291.out _ | refine IsS99.far ?_ NB0_305.out _) | exact HI0.out), by repeat (first | (with_reducible first | exact HB.out | apply below_alloc | apply pw_below_drewN | apply below_drew1 | refine below_set ?_ (IsS99.ge HI0.out) | refine below_set ?_ GE291.out | refine below_set ?_ GE305.out) | exact HB.out), by repeat (first | (with_reducible first | exact HK.out | apply KeepBut.set_ | apply keep_drewN | apply keep_drew | apply keep_alloc | refine keep_far ?_ GW291.out _ | refine keep_far ?_ GW305.out _) | exact HK.out)⟩
end Go.Proofs.YtcaogllnbpmcgaaDoor.P

/- Go's functions come to just the answers of the Lean functions told here. -/
import Derived.Test.YtcaogllnbpmcgaaDoorPx3
namespace Go.Proofs.YtcaogllnbpmcgaaDoor.P
open Go.RowKit Go.Proofs.YtcaogllnbpmcgaaDoorW.PrintWords Go.Proofs.YtcaogllnbpmcgaaDoorW.PrintLast Go.Proofs.YtcaogllnbpmcgaaDoorW.PrintMore
attribute [local go_sem] max2_int min2_int max_two min_two max_three min_three max_four min_four
set_option linter.unusedVariables false
set_option linter.unusedSimpArgs false
def spec_l20Claim.j0 : Nat → List Int → Int → Int → List (S82) → Option (Int × (List (S82)) × Int)
 | 0, _, _, _, _ => none
 | k + 1, x1000, x1001, x114000, x114001 => some (x114000, x114001, x1001)
def spec_l20Claim.f (k : Nat) (s0_0 : List Int) (s0_1 : Int) (a1 : Int) (a2 : Int) : Option (Int × (List (S82)) × Int) := (spec_l20Rd_pick.f k s0_0 s0_1 (mx a1 1)).bind fun bt107 => ((spec_l20Term.f k s0_0 bt107.2 a1 (wrap64 (a2 * 2))).bind fun bt109 => ((spec_l20Rd_odd.f k s0_0 bt109.2 a2).bind fun bt114 => (if bt114.1 = true then ((some (([(-1), 4] : List Int) : List Int)).bind fun y116 => ((spec_l20Rd_pick.f k s0_0 bt114.2 2).bind fun bt119 => (if 0 ≤ bt119.1 then (if bt119.1 < (y116.length : Int) then (spec_l20Claim.j0 k s0_0 bt119.2 (rd y116 bt119.1) bt109.1) else (none)) else (none)))) else (spec_l20Claim.j0 k s0_0 bt114.2 bt107.1 bt109.1))))
set_option maxHeartbeats 8000000 in
set_option maxRecDepth 100000 in
theorem spec_l20Claim.calls (k : Nat) (g : Nat) (s0_0 : List Int) (s0_1 : Int) (a1 : Int) (a2 : Int) (r1 : Int) (r2 : List (S82)) (r3 : Int) (w0 w : World) (hI : IsS99 w0 w g s0_0 s0_1) (hB : Below w0.heap.size w0 w) (h : spec_l20Claim.f k s0_0 s0_1 a1 a2 = some (r1, r2, r3)) :
  Calls Tryd.prog 87 #[.pointer (some ⟨g, 0, none⟩), .int .i64 a1, .int .i64 a2] w fun e w' => ∃ v1_ : Value, e = .returned (.agg #[.int .i64 r1, v1_]) ∧ Kd.R k82 82 w' w.heap.size (fun _ => True) v1_ r2 ∧ IsS99 w0 w' g s0_0 r3 ∧ Below w0.heap.size w0 w' ∧ KeepBut w w' g none := by
 have hu79 := Tryd.underlying79
 have HI0 := mk_ hI
 have HK := mk_ (KeepBut.refl w g none)
 have HL := mk_ hB.size
 clear hI
 have HW0 := mk_ hB.size
 have HB := mk_ hB
 clear hB
 unfold spec_l20Claim.f at h
 have H := h
 clear h
 obtain ⟨ji4, hji4⟩ : ∃ j_ : Int, (mx a1 1) = j_ := ⟨_, rfl⟩
 first | rw [hji4] at H | simp only [hji4] at H
 (try (have hji4l : 1 ≤ ji4 := by (rw [← hji4]; unfold mx; (repeat' split) <;> omega)))
 (try (have hji4m : 0 ≤ ji4 := by omega))
 have hji4_ : (if a1 < 1 then 1 else a1) = ji4 := hji4
 replace H := bm_ H; obtain ⟨⟨t107, t108⟩, A5, H⟩ := H
 try dsimp only at H
 replace H := bm_ H; obtain ⟨⟨t109, t112⟩, A6, H⟩ := H
 try dsimp only at H
 replace H := bm_ H; obtain ⟨⟨t114, t115⟩, A7, H⟩ := H
 try dsimp only at H
 have HC8 := mk_ H
 clear H
 go_enter Tryd.func87, Tryd.ntmps87
 go_upto_if 20 with (first | (refine gx_ 6 #[.int .i64 0, .slice none 0 0] 79 ?_; intro gb106 hg w9 hbox hb; replace HB := mk_ (below_step (below_at HB.out) hb); have BK106 := mk_ (hbox); have GW106 := mk_ ((by rw [hg]; exact (keep_size (w := w) (g := g) (row := none) (keep_at HK.out)) : w.heap.size ≤ gb106)); have GE106 := mk_ ((Nat.le_trans HW0.out (by rw [hg]; exact (keep_size (w := w) (g := g) (row := none) (keep_at HK.out)) : w.heap.size ≤ gb106) : w0.heap.size ≤ gb106)); replace HK := mk_ (KeepBut.trans (keep_at HK.out) (KeepBut.of_below hb g none) (.inl rfl)); have NB0_106 := mk_ ((by rw [hg]; exact Nat.ne_of_lt (IsS99.lt (show IsS99 w0 _ g s0_0 s0_1 from IsS99.below HI0.out lt_)) : g ≠ gb106)); have NB106_0 := mk_ ((by rw [hg]; exact Nat.ne_of_gt (IsS99.lt (show IsS99 w0 _ g s0_0 s0_1 from IsS99.below HI0.out lt_)) : gb106 ≠ g)); replace HI0 := mk_ (IsS99.below (IsS99.below HI0.out lt_) hb); clear hb hbox hg) | ((with_reducible refine gate_callee (f := 52) rfl ?_); refine goesL_ (some 11) rfl rfl Tryd.func52 (by kernel_rfl) rfl #[.pointer (some ⟨g, 0, none⟩), .int .i64 ji4] rfl (by (try simp only [List.map_toArray, List.map_cons, List.map_nil]); first | done | (simp only [hji4]; rfl) | rfl | (simp only [List.length_drop, List.length_take]; rfl)) ?_; (with_reducible refine (spec_l20Rd_pick.calls k g s0_0 s0_1 ji4 t107 t108 w0 _ ?side1 ?side2 A5.out).mono ?_); (case side1 => repeat (first | (with_reducible first | exact HI0.out | apply IsS99.alloc | apply IsS99.drewN | apply IsS99.drew | apply IsS99.set_1 | refine IsS99.far ?_ NB0_106.out _) | exact HI0.out)); (case side2 => repeat (first | (with_reducible first | exact HB.out | apply below_alloc | apply pw_below_drewN | apply below_drew1 | refine below_set ?_ (IsS99.ge HI0.out) | refine below_set ?_ GE106.out) | exact HB.out)); rintro e w10 ⟨rfl, hi, hb, hk⟩; refine ⟨_, rfl, ?_⟩; replace BK106 := mk_ (KeepBut.blk hk (g' := gb106) (o := .cells #[.int .i64 0, .slice none 0 0] 79 (0, 0)) (bk_ BK106.out) NB106_0.out (by simp)); replace HK := mk_ (KeepBut.trans (by repeat (first | (with_reducible first | exact HK.out | apply KeepBut.set_ | apply keep_drewN | apply keep_drew | apply keep_alloc | refine keep_far ?_ GW106.out _) | exact HK.out)) hk (.inl rfl)); replace HB := mk_ (hb); replace HI0 := mk_ (hi); (try clear hb)) | (refine gc_ 74 (some 16) Tryd.func74 #[.pointer (some ⟨g, 0, none⟩), .int .i64 a1, .int .i64 (wrap64 (a2 * 2))] ?_; (with_reducible refine (spec_l20Term.calls k g s0_0 t108 a1 (wrap64 (a2 * 2)) t109 t112 w0 _ ?side1 ?side2 A6.out).mono ?_); (case side1 => repeat (first | (with_reducible first | exact HI0.out | apply IsS99.alloc | apply IsS99.drewN | apply IsS99.drew | apply IsS99.set_1 | refine IsS99.far ?_ NB0_106.out _) | exact HI0.out)); (case side2 => repeat (first | (with_reducible first | exact HB.out | apply below_alloc | apply pw_below_drewN | apply below_drew1 | refine below_set ?_ (IsS99.ge HI0.out) | refine below_set ?_ GE106.out) | exact HB.out)); rintro e w11 ⟨v110, rfl, ho0, hi, hb, hk⟩; refine ⟨_, rfl, ?_⟩; replace BK106 := mk_ (KeepBut.blk hk (g' := gb106) (o := .cells #[.int .i64 0, .slice none 0 0] 79 (0, 0)) (bk_ BK106.out) NB106_0.out (by simp)); have HO111 := mk_ (Kd.R_lower ho0 (keep_size (w := w) (g := g) (row := none) (by repeat (first | (with_reducible first | exact HK.out | apply KeepBut.set_ | apply keep_drewN | apply keep_drew | apply keep_alloc | refine keep_far ?_ GW106.out _) | exact HK.out)))); replace HK := mk_ (KeepBut.trans (by repeat (first | (with_reducible first | exact HK.out | apply KeepBut.set_ | apply keep_drewN | apply keep_drew | apply keep_alloc | refine keep_far ?_ GW106.out _) | exact HK.out)) hk (.inl rfl)); replace HB := mk_ (hb); replace HI0 := mk_ (hi); (try clear hb); (try clear ho0); obtain ⟨Ao12, co12, eo12⟩ := Kd.R_slice HO111.out; subst eo12) | (refine gx_ 7 #[.int .i64 0, .slice none 0 0] 79 ?_; intro gb113 hg w13 hbox hb; replace HO111 := mk_ (Kd.R_below (Kd.R_below HO111.out lt_) hb); replace HB := mk_ (below_step (by repeat (first | (with_reducible first | exact HB.out | apply below_alloc | apply pw_below_drewN | apply below_drew1 | refine below_set ?_ (IsS99.ge HI0.out) | refine below_set ?_ GE106.out) | exact HB.out)) hb); have BK113 := mk_ (hbox); have GW113 := mk_ ((by rw [hg]; exact (keep_size (w := w) (g := g) (row := none) (by repeat (first | (with_reducible first | exact HK.out | apply KeepBut.set_ | apply keep_drewN | apply keep_drew | apply keep_alloc | refine keep_far ?_ GW106.out _) | exact HK.out))) : w.heap.size ≤ gb113)); have GE113 := mk_ ((Nat.le_trans HW0.out (by rw [hg]; exact (keep_size (w := w) (g := g) (row := none) (by repeat (first | (with_reducible first | exact HK.out | apply KeepBut.set_ | apply keep_drewN | apply keep_drew | apply keep_alloc | refine keep_far ?_ GW106.out _) | exact HK.out))) : w.heap.size ≤ gb113) : w0.heap.size ≤ gb113)); replace HK := mk_ (KeepBut.trans (by repeat (first | (with_reducible first | exact HK.out | apply KeepBut.set_ | apply keep_drewN | apply keep_drew | apply keep_alloc | refine keep_far ?_ GW106.out _) | exact HK.out)) (KeepBut.of_below hb g none) (.inl rfl)); have NB106_113 := nl_ hg BK106.out; have NB113_106 := ng_ hg BK106.out; replace BK106 := mk_ (blk_below (g := gb106) (o := .cells #[.int .i64 0, .slice none 0 0] 79 (0, 0)) (bk_ BK106.out) hb); have NB0_113 := mk_ ((by rw [hg]; exact Nat.ne_of_lt (IsS99.lt (show IsS99 w0 _ g s0_0 t112 from by repeat (first | (with_reducible first | exact HI0.out | apply IsS99.alloc | apply IsS99.drewN | apply IsS99.drew | apply IsS99.set_1 | refine IsS99.far ?_ NB0_106.out _) | exact HI0.out))) : g ≠ gb113)); have NB113_0 := mk_ ((by rw [hg]; exact Nat.ne_of_gt (IsS99.lt (show IsS99 w0 _ g s0_0 t112 from by repeat (first | (with_reducible first | exact HI0.out | apply IsS99.alloc | apply IsS99.drewN | apply IsS99.drew | apply IsS99.set_1 | refine IsS99.far ?_ NB0_106.out _) | exact HI0.out))) : gb113 ≠ g)); replace HI0 := mk_ (IsS99.below (by repeat (first | (with_reducible first | exact HI0.out | apply IsS99.alloc | apply IsS99.drewN | apply IsS99.drew | apply IsS99.set_1 | refine IsS99.far ?_ NB0_106.out _) | exact HI0.out)) hb); clear hb hbox hg; have hnb14 := NB113_106.out; have hnc14 := NB106_113.out; have hnb15 := NB113_0.out; have hnc15 := NB0_113.out; have hcz16_0 : w13.cell? ⟨gb113, 0, none⟩ = some (.int .i64 0) := (blk_cell BK113.out 0).trans rfl; have hcz16_1 : w13.cell? ⟨gb113, 1, none⟩ = some (.slice none 0 0) := (blk_cell BK113.out 1).trans rfl; have hfz16_0 := blk_frozen BK113.out 0; have hfz16_1 := blk_frozen BK113.out 1) | (refine gc_ 55 (some 20) Tryd.func55 #[.pointer (some ⟨g, 0, none⟩), .int .i64 a2] ?_; (with_reducible refine (spec_l20Rd_odd.calls k g s0_0 t112 a2 t114 t115 w0 _ ?side1 ?side2 A7.out).mono ?_); (case side1 => repeat (first | (with_reducible first | exact HI0.out | apply IsS99.alloc | apply IsS99.drewN | apply IsS99.drew | apply IsS99.set_1 | refine IsS99.far ?_ NB0_106.out _ | refine IsS99.far ?_ NB0_113.out _) | exact HI0.out)); (case side2 => repeat (first | (with_reducible first | exact HB.out | apply below_alloc | apply pw_below_drewN | apply below_drew1 | refine below_set ?_ (IsS99.ge HI0.out) | refine below_set ?_ GE106.out | refine below_set ?_ GE113.out) | exact HB.out)); rintro e w17 ⟨rfl, hi, hb, hk⟩; refine ⟨_, rfl, ?_⟩; replace BK106 := mk_ (KeepBut.blk hk (g' := gb106) (o := .cells #[.int .i64 0, .slice none 0 0] 79 (0, 0)) (by refine bs_ ?_; refine blk_far ?_ NB106_113.out _; refine bs_ ?_; refine blk_far ?_ NB106_113.out _; refine bs_ ?_; exact BK106.out) NB106_0.out (by simp)); replace HO111 := mk_ (Kd.R_mono (Kd.R_keep (IsS99.apart (show IsS99 w0 _ g s0_0 t112 from by repeat (first | (with_reducible first | exact HI0.out | apply IsS99.alloc | apply IsS99.drewN | apply IsS99.drew | apply IsS99.set_1 | refine IsS99.far ?_ NB0_106.out _ | refine IsS99.far ?_ NB0_113.out _) | exact HI0.out)) (by (with_reducible repeat (first | apply Kd.R_alloc | apply Kd.R_drewN | apply Kd.R_drew)); exact (Kd.R_mono (Kd.R_far (p := ⟨gb113, 1, none⟩) (Kd.R_far (p := ⟨gb113, 0, none⟩) (Kd.R_types HO111.out BK113.out (by decide)) (fun _ hk => hk.2) (.int .i64 t107)) (fun _ hk => hk.2) (.slice Ao12 t109.length co12)) (fun _ h_ => h_.1))) (by decide)) hk (fun _ h => h.2)) (fun _ h => h.1)); replace BK113 := mk_ (KeepBut.blk hk (g' := gb113) (o := .cells #[.int .i64 t107, .slice Ao12 t109.length co12] 79 (0, 0)) (by refine bs_ ?_; refine blk_put (cs := #[.int .i64 t107, .slice none 0 0]) ?_ 1 _ rfl; refine bs_ ?_; refine blk_put (cs := #[.int .i64 0, .slice none 0 0]) ?_ 0 _ rfl; refine bs_ ?_; exact BK113.out) NB113_0.out (by simp)); replace HK := mk_ (KeepBut.trans (by repeat (first | (with_reducible first | exact HK.out | apply KeepBut.set_ | apply keep_drewN | apply keep_drew | apply keep_alloc | refine keep_far ?_ GW106.out _ | refine keep_far ?_ GW113.out _) | exact HK.out)) hk (.inl rfl)); replace HB := mk_ (hb); replace HI0 := mk_ (hi); (try clear hb)))
 (try simp only [Act.put, z0_, z1_, z2_])
 go_cut [] (fun wc => ∃ (kq : Nat) (x1001_7 : Int) (x114000_7 : Int), Aside0 (spec_l20Claim.j0 kq s0_0 x1001_7 x114000_7 t109 = some (r1, r2, r3)) ∧ Aside0 (kq ≤ k) ∧ Aside0 (Kd.R k82 82 wc w.heap.size (fun _ => True) (.slice Ao12 t109.length co12) t109) ∧ Aside0 (wc.heap[gb106]? = some (.cells #[.int .i64 0, (.slice none 0 0)] 79 (0, 0))) ∧ Aside0 (wc.heap[gb113]? = some (.cells #[.int .i64 x114000_7, (.slice Ao12 t109.length co12)] 79 (0, 0))) ∧ Aside0 (IsS99 w0 wc g s0_0 x1001_7) ∧ Aside0 (KeepBut w wc g none) ∧ Aside0 (Below w0.heap.size w0 wc))
 case first =>
  have H := HC8.out
  clear HC8
  revert H; refine bi_ ?_ ?_ <;> rintro rfl H
  ·have H' := mk_ H
   clear H
   go_wp2
   go_meet
   case rel => exact ⟨_, (t115), (t107), H', ⟨by first | omega | exact Nat.le_refl _⟩, ⟨Kd.R_below HO111.out lt_⟩, ⟨by refine bs_ ?_; exact BK106.out⟩, ⟨by refine bs_ ?_; exact BK113.out⟩, ⟨by repeat (first | (with_reducible first | exact HI0.out | apply IsS99.alloc | apply IsS99.drewN | apply IsS99.drew | apply IsS99.set_1 | refine IsS99.far ?_ NB0_106.out _ | refine IsS99.far ?_ NB0_113.out _) | exact HI0.out)⟩, ⟨by repeat (first | (with_reducible first | exact HK.out | apply KeepBut.set_ | apply keep_drewN | apply keep_drew | apply keep_alloc | refine keep_far ?_ GW106.out _ | refine keep_far ?_ GW113.out _) | exact HK.out)⟩, ⟨by repeat (first | (with_reducible first | exact HB.out | apply below_alloc | apply pw_below_drewN | apply below_drew1 | refine below_set ?_ (IsS99.ge HI0.out) | refine below_set ?_ GE106.out | refine below_set ?_ GE113.out) | exact HB.out)⟩⟩
  obtain ⟨y116, hy116⟩ : ∃ y_ : List Int, y_ = (([(-1), 4] : List Int)) := ⟨_, rfl⟩
  first | (replace H := bn_ hy116 H; try dsimp only at H) | rw [← hy116] at H
  have Ny116 := mk_ hy116
  clear hy116
  replace H := bm_ H; obtain ⟨⟨t119, t120⟩, A19, H⟩ := H
  try dsimp only at H
  revert H; refine g_ (dt_ fun c20b0 H => ?_)
  (first | rw [c20b0] | (simp only [i64_w, i32_w]; rw [c20b0]) | skip)
  revert H; refine g_ (dt_ fun c21b0 H => ?_)
  have H' := mk_ H
  clear H
  go_wp2_with (first | ((with_reducible refine gate_dst (N := 21) rfl ?_); refine Kd.R_lit (Kd.int .i64) _ 3 ?hg (N := 21) ?hd (xs := ([(-1), 4] : List Int)) (inner := [.int .i64 (-1), .int .i64 4]) (ok := fun _ => True) (okp := fun _ => True) ?hr ?hp (fun _ hk => hk) trivial (Below.refl _ _) (Nat.le_refl _) (by simp) ?_; (case hd => rfl); (case hg => rfl); (case hr => first | (go_simp; done) | (go_simp; rfl)); (case hp => exact (Reps.one (show Kd.M (Kd.int .i64) _ _ _ (-1) [.int .i64 (-1)] from rfl) (Reps.one (show Kd.M (Kd.int .i64) _ _ _ 4 [.int .i64 4] from rfl) (Reps.none _ _)))); intro v117 w22 ho23 hb hg_ hnew_; clear hg_ hnew_; (first | rw [← Ny116.out] at ho23 | (simp only [Int.reduceToNat] at ho23; rw [← Ny116.out] at ho23)); replace HO111 := mk_ (Kd.R_below (Kd.R_below HO111.out lt_) hb); have HO118 := mk_ (Kd.R_lower ho23 (keep_size (w := w) (g := g) (row := none) (by repeat (first | (with_reducible first | exact HK.out | apply KeepBut.set_ | apply keep_drewN | apply keep_drew | apply keep_alloc | refine keep_far ?_ GW106.out _ | refine keep_far ?_ GW113.out _) | exact HK.out)))); replace BK106 := mk_ (blk_below (g := gb106) (o := .cells #[.int .i64 0, .slice none 0 0] 79 (0, 0)) (bk_ BK106.out) hb); replace BK113 := mk_ (blk_below (g := gb113) (o := .cells #[.int .i64 t107, .slice Ao12 t109.length co12] 79 (0, 0)) (bk_ BK113.out) hb); replace HK := mk_ (KeepBut.trans (by repeat (first | (with_reducible first | exact HK.out | apply KeepBut.set_ | apply keep_drewN | apply keep_drew | apply keep_alloc | refine keep_far ?_ GW106.out _ | refine keep_far ?_ GW113.out _) | exact HK.out)) (KeepBut.of_below hb g none) (.inl rfl)); replace HB := mk_ (below_step (by repeat (first | (with_reducible first | exact HB.out | apply below_alloc | apply pw_below_drewN | apply below_drew1 | refine below_set ?_ (IsS99.ge HI0.out) | refine below_set ?_ GE106.out | refine below_set ?_ GE113.out) | exact HB.out)) hb); replace HI0 := mk_ (IsS99.below (by repeat (first | (with_reducible first | exact HI0.out | apply IsS99.alloc | apply IsS99.drewN | apply IsS99.drew | apply IsS99.set_1 | refine IsS99.far ?_ NB0_106.out _ | refine IsS99.far ?_ NB0_113.out _) | exact HI0.out)) hb); clear hb ho23) | (refine gc_ 52 (some 23) Tryd.func52 #[.pointer (some ⟨g, 0, none⟩), .int .i64 2] ?_; (with_reducible refine (spec_l20Rd_pick.calls k g s0_0 t115 2 t119 t120 w0 _ ?side1 ?side2 A19.out).mono ?_); (case side1 => repeat (first | (with_reducible first | exact HI0.out | apply IsS99.alloc | apply IsS99.drewN | apply IsS99.drew | apply IsS99.set_1 | refine IsS99.far ?_ NB0_106.out _ | refine IsS99.far ?_ NB0_113.out _) | exact HI0.out)); (case side2 => repeat (first | (with_reducible first | exact HB.out | apply below_alloc | apply pw_below_drewN | apply below_drew1 | refine below_set ?_ (IsS99.ge HI0.out) | refine below_set ?_ GE106.out | refine below_set ?_ GE113.out) | exact HB.out)); rintro e w24 ⟨rfl, hi, hb, hk⟩; refine ⟨_, rfl, ?_⟩; replace BK106 := mk_ (KeepBut.blk hk (g' := gb106) (o := .cells #[.int .i64 0, .slice none 0 0] 79 (0, 0)) (bk_ BK106.out) NB106_0.out (by simp)); replace HO111 := mk_ (Kd.R_mono (Kd.R_keep (IsS99.apart (show IsS99 w0 _ g s0_0 t115 from by repeat (first | (with_reducible first | exact HI0.out | apply IsS99.alloc | apply IsS99.drewN | apply IsS99.drew | apply IsS99.set_1 | refine IsS99.far ?_ NB0_106.out _ | refine IsS99.far ?_ NB0_113.out _) | exact HI0.out)) (Kd.R_below HO111.out lt_) (by decide)) hk (fun _ h => h.2)) (fun _ h => h.1)); replace BK113 := mk_ (KeepBut.blk hk (g' := gb113) (o := .cells #[.int .i64 t107, .slice Ao12 t109.length co12] 79 (0, 0)) (bk_ BK113.out) NB113_0.out (by simp)); replace HO118 := mk_ (Kd.R_mono (Kd.R_keep (IsS99.apart (show IsS99 w0 _ g s0_0 t115 from by repeat (first | (with_reducible first | exact HI0.out | apply IsS99.alloc | apply IsS99.drewN | apply IsS99.drew | apply IsS99.set_1 | refine IsS99.far ?_ NB0_106.out _ | refine IsS99.far ?_ NB0_113.out _) | exact HI0.out)) (Kd.R_below HO118.out lt_) (by decide)) hk (fun _ h => h.2)) (fun _ h => h.1)); replace HK := mk_ (KeepBut.trans (by repeat (first | (with_reducible first | exact HK.out | apply KeepBut.set_ | apply keep_drewN | apply keep_drew | apply keep_alloc | refine keep_far ?_ GW106.out _ | refine keep_far ?_ GW113.out _) | exact HK.out)) hk (.inl rfl)); replace HB := mk_ (hb); replace HI0 := mk_ (hi); (try clear hb); obtain ⟨Ao25, co25, eo25⟩ := Kd.R_slice HO118.out; subst eo25; have p121 : 0 ≤ (t119 : Int) := oa_; have q121 : t119 < (y116.length : Int) := oa_; obtain ⟨ad121, e121, hx121_0⟩ := Kd.at_int (Kd.R_reads' HO118.out).2.2 t119 p121 q121; cases e121; replace p121 := eq_true p121; replace q121 := eq_true q121; have hnb26 := NB113_106.out; have hnc26 := NB106_113.out; have hnb27 := NB113_0.out; have hnc27 := NB0_113.out; have hcz28_0 : w24.cell? ⟨gb113, 0, none⟩ = some (.int .i64 t107) := (blk_cell BK113.out 0).trans rfl; have hcz28_1 : w24.cell? ⟨gb113, 1, none⟩ = some (.slice Ao12 t109.length co12) := (blk_cell BK113.out 1).trans rfl; have hfz28_0 := blk_frozen BK113.out 0; have hfz28_1 := blk_frozen BK113.out 1))
  go_meet
  case rel => exact ⟨_, (t120), (rd y116 t119), H', ⟨by first | omega | exact Nat.le_refl _⟩, ⟨by (with_reducible repeat (first | apply Kd.R_alloc | apply Kd.R_drewN | apply Kd.R_drew)); exact Kd.R_mono (Kd.R_far (p := ⟨gb113, 0, none⟩) (Kd.R_types HO111.out BK113.out (by decide)) (fun _ hk => hk.2) (.int .i64 (rd y116 t119))) (fun _ hk => trivial)⟩, ⟨by refine bs_ ?_; refine blk_far ?_ NB106_113.out _; refine bs_ ?_; exact BK106.out⟩, ⟨by refine bs_ ?_; refine blk_put (cs := #[.int .i64 t107, .slice Ao12 t109.length co12]) ?_ 0 _ rfl; refine bs_ ?_; exact BK113.out⟩, ⟨by repeat (first | (with_reducible first | exact HI0.out | apply IsS99.alloc | apply IsS99.drewN | apply IsS99.drew | apply IsS99.set_1 | refine IsS99.far ?_ NB0_106.out _ | refine IsS99.far ?_ NB0_113.out _) | exact HI0.out)⟩, ⟨by repeat (first | (with_reducible first | exact HK.out | apply KeepBut.set_ | apply keep_drewN | apply keep_drew | apply keep_alloc | refine keep_far ?_ GW106.out _ | refine keep_far ?_ GW113.out _) | exact HK.out)⟩, ⟨by repeat (first | (with_reducible first | exact HB.out | apply below_alloc | apply pw_below_drewN | apply below_drew1 | refine below_set ?_ (IsS99.ge HI0.out) | refine below_set ?_ GE106.out | refine below_set ?_ GE113.out) | exact HB.out)⟩⟩
 clear HC8
 try clear c1
 try clear p1
 try clear q1
 try clear hx1
 try clear c2
 try clear p2
 try clear c5
 try clear p6
 try clear c7
 try clear c8
 try clear p12
 try clear q12
 try clear hx12
 try clear c14
 try clear c15
 try clear c18
 try clear c20
 try clear c20b0
 try clear c21
 try clear c21b0
 try clear c26
 try clear c27
 try clear hcz16_0
 try clear hcz16_1
 try clear hcz28_0
 try clear hcz28_1
 try clear hfz16_0
 try clear hfz16_1
 try clear hfz28_0
 try clear hfz28_1
 try clear hx121_0
 try clear p121
 try clear q121
 obtain ⟨kq, x1001_7, x114000_7, HA, HJ7, HO_114001, BK106, BK113, HI0, HK, HB⟩ := hcut
 cases kq with
 | zero => exact absurd HA.out (by simp [spec_l20Claim.j0])
 | succ kj7 =>
  have H := HA.out
  clear HA
  simp only [spec_l20Claim.j0] at H
  simp only [Option.some.injEq, Prod.mk.injEq] at H
  obtain ⟨rfl, rfl, rfl⟩ := H
  have hnb29 := NB113_106.out
  have hnc29 := NB106_113.out
  have hnb30 := NB113_0.out
  have hnc30 := NB0_113.out
  have hcz31_0 : wc.cell? ⟨gb113, 0, none⟩ = some (.int .i64 x114000_7) := (blk_cell BK113.out 0).trans rfl
  have hcz31_1 : wc.cell? ⟨gb113, 1, none⟩ = some (.slice Ao12 t109.length co12) := (blk_cell BK113.out 1).trans rfl
  have hfz31_0 := blk_frozen BK113.out 0
  have hfz31_1 := blk_frozen BK113.out 1
  have hnb32 := NB106_0.out
  have hnc32 := NB0_106.out
  have hcz33_0 : wc.cell? ⟨gb106, 0, none⟩ = some (.int .i64 0) := (blk_cell BK106.out 0).trans rfl
  have hcz33_1 : wc.cell? ⟨gb106, 1, none⟩ = some (.slice none 0 0) := (blk_cell BK106.out 1).trans rfl
  have hfz33_0 := blk_frozen BK106.out 0
  have hfz33_1 := blk_frozen BK106.out 1
  go_wp2
  refine bodyPost_ret (results_cell_row rfl _ _ gb106 79 #[.int .i64 x114000_7, .slice Ao12 t109.length co12] (0, 0) _ rfl (by refine bs_ ?_; refine blk_put (cs := #[.int .i64 x114000_7, .slice none 0 0]) ?_ 1 _ rfl; refine bs_ ?_; refine blk_put (cs := #[.int .i64 0, .slice none 0 0]) ?_ 0 _ rfl; refine bs_ ?_; exact BK106.out) Tryd.underlying79 rfl (by kernel_rfl)) rfl ?_
  exact ⟨_, by first | rfl | (simp [errW_none, errW_some] <;> rfl) | (simp only [← hji4]; first | rfl | (simp [errW_none, errW_some] <;> rfl)) | (simp [*, errW_none, errW_some] <;> rfl), by (with_reducible repeat (first | apply Kd.R_alloc | apply Kd.R_drewN | apply Kd.R_drew)); exact Kd.R_mono (Kd.R_far (p := ⟨gb106, 1, none⟩) (Kd.R_far (p := ⟨gb106, 0, none⟩) (Kd.R_types HO_114001.out BK106.out (by decide)) (fun _ hk => hk.2) (.int .i64 x114000_7)) (fun _ hk => hk.2) (.slice Ao12 t109.length co12)) (fun _ hk => trivial), by repeat (first | (with_reducible first | exact HI0.out | apply IsS99.alloc | apply IsS99.drewN | apply IsS99.drew | apply IsS99.set_1 | refine IsS99.far ?_ NB0_106.out _ | refine IsS99.far ?_ NB0_113.out _) | exact HI0.out), by repeat (first | (with_reducible first | exact HB.out | apply below_alloc | apply pw_below_drewN | apply below_drew1 | refine below_set ?_ (IsS99.ge HI0.out) | refine below_set ?_ GE106.out | refine below_set ?_ GE113.out) | exact HB.out), by repeat (first | (with_reducible first | exact HK.out | apply KeepBut.set_ | apply keep_drewN | apply keep_drew | apply keep_alloc | refine keep_far ?_ GW106.out _ | refine keep_far ?_ GW113.out _) | exact HK.out)⟩
mutual
def spec_l20Story.l0 : Nat → Int → Int → List (S79) → Int → List Int → Int → Option (Int × (List (S79)) × Int)
 | 0, _, _, _, _, _, _ => none
 | k + 1, x1, x6, x7, x8, x1000, x1001 => if x8 > 0 then ((spec_l20Claim.f k x1000 x1001 x6 (wrap64 (x1 * 3))).bind fun bt129 => (if x7.length < 4398046511104 then (spec_l20Story.l0 k x1 x6 (x7 ++ [(⟨bt129.1, bt129.2.1⟩ : S79)]) (wrap64 (x8 - 1)) x1000 bt129.2.2) else (none))) else ((spec_l20Rd_odd.f k x1000 x1001 x1).bind fun bt137 => (if bt137.1 = true then (spec_l20Story.l1 k x6 x7 x1000 bt137.2) else (some (x6, x7, bt137.2))))
def spec_l20Story.l1 : Nat → Int → List (S79) → List Int → Int → Option (Int × (List (S79)) × Int)
 | 0, _, _, _, _ => none
 | k + 1, x6, x7, x1000, x1001 => if (x7.length : Int) < 7 then (if x7.length < 4398046511104 then (spec_l20Story.l1 k x6 (x7 ++ [(⟨0, (([(⟨0, 0⟩ : S82)] : List (S82)))⟩ : S79)]) x1000 x1001) else (none)) else (some (x6, x7, x1001))
end
def spec_l20Story.f (k : Nat) (s0_0 : List Int) (s0_1 : Int) (a1 : Int) : Option (Int × (List (S79)) × Int) := (spec_l20Rd_pick.f k s0_0 s0_1 4).bind fun bt122 => ((spec_l20Rd_pick.f k s0_0 bt122.2 5).bind fun bt127 => (spec_l20Story.l0 k a1 (wrap64 (1 + bt122.1)) (([] : List (S79))) bt127.1 s0_0 bt127.2))
set_option maxHeartbeats 8000000 in
set_option maxRecDepth 100000 in
theorem spec_l20Story.calls (k : Nat) (g : Nat) (s0_0 : List Int) (s0_1 : Int) (a1 : Int) (r1 : Int) (r2 : List (S79)) (r3 : Int) (w0 w : World) (hI : IsS99 w0 w g s0_0 s0_1) (hB : Below w0.heap.size w0 w) (h : spec_l20Story.f k s0_0 s0_1 a1 = some (r1, r2, r3)) :
  Calls Tryd.prog 73 #[.pointer (some ⟨g, 0, none⟩), .int .i64 a1] w fun e w' => ∃ v1_ : Value, e = .returned (.tuple #[.int .i64 r1, v1_]) ∧ Kd.S k79 79 w' w.heap.size (fun _ => True) v1_ r2 ∧ IsS99 w0 w' g s0_0 r3 ∧ Below w0.heap.size w0 w' ∧ KeepBut w w' g none := by
 have hu82 := Tryd.underlying82
 have hu79 := Tryd.underlying79
 have HI0 := mk_ hI
 have HK := mk_ (KeepBut.refl w g none)
 have HL := mk_ hB.size
 clear hI
 have HW0 := mk_ hB.size
 have HB := mk_ hB
 clear hB
 unfold spec_l20Story.f at h
 have H := h
 clear h
 replace H := bm_ H; obtain ⟨⟨t122, t123⟩, A3, H⟩ := H
 try dsimp only at H
 obtain ⟨y124, hy124⟩ : ∃ y_ : List (S79), y_ = (([] : List (S79))) := ⟨_, rfl⟩
 replace H : ((spec_l20Rd_pick.f k s0_0 t123 5).bind fun bt127 => (spec_l20Story.l0 k a1 (wrap64 (1 + t122)) y124 bt127.1 s0_0 bt127.2)) = some (r1, r2, r3) := by first | (rw [hy124]; exact H) | exact H
 have Ny124 := mk_ hy124
 clear hy124
 replace H := bm_ H; obtain ⟨⟨t127, t128⟩, A4, H⟩ := H
 try dsimp only at H
 have H' := mk_ H
 clear H
 go_enter Tryd.func73, Tryd.ntmps73
 go_wp2_with (first | (refine gc_ 52 (some 10) Tryd.func52 #[.pointer (some ⟨g, 0, none⟩), .int .i64 4] ?_; (with_reducible refine (spec_l20Rd_pick.calls k g s0_0 s0_1 4 t122 t123 w0 _ ?side1 ?side2 A3.out).mono ?_); (case side1 => exact IsS99.below HI0.out lt_); (case side2 => exact below_at HB.out); rintro e w5 ⟨rfl, hi, hb, hk⟩; refine ⟨_, rfl, ?_⟩; replace HK := mk_ (KeepBut.trans (keep_at HK.out) hk (.inl rfl)); replace HB := mk_ (hb); replace HI0 := mk_ (hi); (try clear hb)) | ((with_reducible refine gate_dst (N := 12) rfl ?_); refine Kd.S_lit k79 _ 79 ?hg (N := 12) ?hd (xs := ([] : List (S79))) (inner := []) (ok := fun _ => True) (okp := fun _ => True) ?hr ?hp (fun _ hk => hk) trivial (Below.refl _ _) (Nat.le_refl _) (by simp) ?_; (case hd => rfl); (case hg => rfl); (case hr => first | (go_simp; done) | (go_simp; rfl)); (case hp => exact (Reps.none _ _)); intro v125 w6 ho7 hb hg_ hnew_; clear hg_ hnew_; (first | rw [← Ny124.out] at ho7 | (simp only [Int.reduceToNat] at ho7; rw [← Ny124.out] at ho7)); have HO126 := mk_ (Kd.S_lower ho7 (keep_size (w := w) (g := g) (row := none) (keep_at HK.out))); replace HI0 := mk_ (IsS99.below (IsS99.below HI0.out lt_) hb); replace HK := mk_ (KeepBut.trans (keep_at HK.out) (KeepBut.of_below hb g none) (.inl rfl)); replace HB := mk_ (below_step (below_at HB.out) hb); clear hb ho7) | (refine gc_ 52 (some 14) Tryd.func52 #[.pointer (some ⟨g, 0, none⟩), .int .i64 5] ?_; (with_reducible refine (spec_l20Rd_pick.calls k g s0_0 t123 5 t127 t128 w0 _ ?side1 ?side2 A4.out).mono ?_); (case side1 => exact IsS99.below HI0.out lt_); (case side2 => exact below_at HB.out); rintro e w8 ⟨rfl, hi, hb, hk⟩; refine ⟨_, rfl, ?_⟩; replace HO126 := mk_ (Kd.S_mono (Kd.S_keep (IsS99.apartS (show IsS99 w0 _ g s0_0 t123 from IsS99.below HI0.out lt_) (Kd.S_below HO126.out lt_) (by decide)) hk (fun _ h => h.2)) (fun _ h => h.1)); replace HK := mk_ (KeepBut.trans (keep_at HK.out) hk (.inl rfl)); replace HB := mk_ (hb); replace HI0 := mk_ (hi); (try clear hb)))
 go_loopg [7, 8] k (fun kq v7 v8 w' => ∃ (x7_1 : List (S79)) (x8_1 : Int) (x1001_1 : Int), v8 = .int .i64 x8_1 ∧ Aside0 (spec_l20Story.l0 kq a1 (wrap64 (1 + t122)) x7_1 x8_1 s0_0 x1001_1 = some (r1, r2, r3)) ∧ Aside0 (kq ≤ k) ∧ Aside0 (Kd.S k79 79 w' w.heap.size (fun _ => True) v7 x7_1) ∧ Aside0 (IsS99 w0 w' g s0_0 x1001_1) ∧ Aside0 (KeepBut w w' g none) ∧ Aside0 (Below w0.heap.size w0 w'))
 case atStart => exact ⟨(y124), (t127), (t128), sm_, H', ⟨Nat.le_refl _⟩, ⟨Kd.S_below HO126.out lt_⟩, ⟨IsS99.below HI0.out lt_⟩, ⟨keep_at HK.out⟩, ⟨below_at HB.out⟩⟩
 clear H'
 try clear p2
 try clear c5
 try clear p6
 try clear c7
 obtain ⟨x7_1, x8_1, x1001_1, rfl, HA, HK1, HO_7, HI0, HK, HB⟩ := hrel
 cases gk with
 | zero => exact absurd HA.out (by simp [spec_l20Story.l0])
 | succ k1 =>
  have H := HA.out
  clear HA
  simp only [spec_l20Story.l0] at H
  revert H; refine it_ (dt_g fun c9b0 H => ?_) (df_g fun c9b0 H => ?_)
  ·replace H := bm_ H; obtain ⟨⟨t129, t130, t133⟩, A10, H⟩ := H
   try dsimp only at H
   revert H; refine g_ (mt_ fun LMc11 H => ?_)
   obtain ⟨y134, hy134⟩ : ∃ y_ : List (S79), y_ = (x7_1 ++ [(⟨t129, t130⟩ : S79)]) := ⟨_, rfl⟩
   first | (replace H := bn_ hy134 H; try dsimp only at H) | rw [← hy134] at H
   have Ny134 := mk_ hy134
   clear hy134
   have H' := mk_ H
   clear H
   go_wp2_with (first | (refine gc_ 87 (some 24) Tryd.func87 #[.pointer (some ⟨g, 0, none⟩), .int .i64 (wrap64 (1 + t122)), .int .i64 (wrap64 (a1 * 3))] ?_; (with_reducible refine (spec_l20Claim.calls k1 g s0_0 x1001_1 (wrap64 (1 + t122)) (wrap64 (a1 * 3)) t129 t130 t133 w0 _ ?side1 ?side2 A10.out).mono ?_); (case side1 => exact IsS99.below HI0.out lt_); (case side2 => exact below_at HB.out); rintro e w12 ⟨v131, rfl, ho0, hi, hb, hk⟩; refine ⟨_, rfl, ?_⟩; replace HO_7 := mk_ (Kd.S_mono (Kd.S_told (Kd.S_oldK (IsS99.apartS (show IsS99 w0 _ g s0_0 x1001_1 from IsS99.below HI0.out lt_) (Kd.S_below HO_7.out lt_) (by decide)) hk) (Kd.R_base ho0)) (fun _ h_ => h_.1)); have HO132 := mk_ (Kd.R_lower ho0 (keep_size (w := w) (g := g) (row := none) (keep_at HK.out))); replace HK := mk_ (KeepBut.trans (keep_at HK.out) hk (.inl rfl)); replace HB := mk_ (hb); replace HI0 := mk_ (hi); (try clear hb); (try clear ho0); obtain ⟨Ao14, co14, eo14⟩ := Kd.R_slice HO132.out; subst eo14) | ((with_reducible refine gate_builtin (b := .append) (xs := #[.tmp 19, .tmp 25]) rfl ?_); at_builtin; refine Kd.S_append k79 w.heap.size rfl (.tmp 19) (.tmp 25) 23 79 (.agg #[(.int .i64 0), (.slice none 0 0)]) 32 rfl Tryd.underlying23 info79 rfl (by decide) (by omega) u7 x7_1 (⟨t129, t130⟩ : S79) [.int .i64 t129, .slice Ao14 t130.length co14] (fun _ => True) (fun k_ => some k_ = (.slice Ao14 t130.length co14 : Value).ownBlock) rfl rfl ?aP (fun k_ hk_ => ((Kd.R_mono (ok' := fun k_ => ((fun _ => True)) k_ ∧ some k_ ≠ (u7 : Value).ownBlock) (Kd.R_apart' (HO132.out) (Kd.S_typed HO_7.out) (by decide)) (fun k_ hk => ⟨trivial, hk.2⟩))).1 k_ hk_.symm) ?aF ?aO (Below.refl _ _) ?aS ?aL ?_; (case aP => exact k79_mkM _ _ _ (⟨t129, t130⟩ : S79) (Kd.R_mono (Kd.R_tight rfl (Kd.R_mono (ok' := fun k_ => ((fun _ => True)) k_ ∧ some k_ ≠ (u7 : Value).ownBlock) (Kd.R_apart' (HO132.out) (Kd.S_typed HO_7.out) (by decide)) (fun k_ hk => ⟨trivial, hk.2⟩))) (fun _ h_ => h_))); (case aF => exact (fun _ _ => trivial)); (case aO => exact (Kd.S_below (Kd.S_mono HO_7.out (fun k_ hk => ⟨trivial, fun e_ => hk.2 e_⟩)) lt_)); (case aS => exact (keep_size (w := w) (g := g) (row := none) (keep_at HK.out))); (case aL => have := LMc11.out; omega); intro v135 w13 ho hb hg hat; rw [← Ny134.out] at ho; replace HI0 := mk_ (IsS99.grown (IsS99.below HI0.out lt_) hg (IsS99.own_neS HI0.out HO_7.out (by decide))); replace HB := mk_ (below_weaken (below_at HB.out) HL.out hb); replace HK := mk_ (KeepBut.trans (keep_at HK.out) (KeepBut.of_grown hg g) (Kd.S_base2 HO_7.out)); have HO136 := mk_ (ho); (try clear HO_7 HO132); clear ho hb hg hat))
   go_roundg k1
   case measure => have := HK1.out; omega
   case rel => exact ⟨(y134), (wrap64 (x8_1 - 1)), (t133), sm_, H', ⟨by have := HK1.out; omega⟩, ⟨Kd.S_below HO136.out lt_⟩, ⟨IsS99.below HI0.out lt_⟩, ⟨keep_at HK.out⟩, ⟨below_at HB.out⟩⟩
  replace H := bm_ H; obtain ⟨⟨t137, t138⟩, A15, H⟩ := H
  try dsimp only at H
  revert H; refine bi_ ?_ ?_ <;> rintro rfl H
  ·simp only [Option.some.injEq, Prod.mk.injEq] at H
   obtain ⟨rfl, rfl, rfl⟩ := H
   go_wp2_with (first | (refine gc_ 55 (some 29) Tryd.func55 #[.pointer (some ⟨g, 0, none⟩), .int .i64 a1] ?_; (with_reducible refine (spec_l20Rd_odd.calls k1 g s0_0 x1001_1 a1 false t138 w0 _ ?side1 ?side2 A15.out).mono ?_); (case side1 => exact IsS99.below HI0.out lt_); (case side2 => exact below_at HB.out); rintro e w26 ⟨rfl, hi, hb, hk⟩; refine ⟨_, rfl, ?_⟩; replace HO_7 := mk_ (Kd.S_mono (Kd.S_keep (IsS99.apartS (show IsS99 w0 _ g s0_0 x1001_1 from IsS99.below HI0.out lt_) (Kd.S_below HO_7.out lt_) (by decide)) hk (fun _ h => h.2)) (fun _ h => h.1)); replace HK := mk_ (KeepBut.trans (keep_at HK.out) hk (.inl rfl)); replace HB := mk_ (hb); replace HI0 := mk_ (hi); (try clear hb)))
   go_ret2
   exact ⟨_, er_, by (with_reducible repeat (first | apply Kd.S_alloc | apply Kd.S_drewN | apply Kd.S_drew)); exact HO_7.out, IsS99.below HI0.out lt_, below_at HB.out, keep_at HK.out⟩
  have H' := mk_ H
  clear H
  go_wp2_with (first | (refine gc_ 55 (some 29) Tryd.func55 #[.pointer (some ⟨g, 0, none⟩), .int .i64 a1] ?_; (with_reducible refine (spec_l20Rd_odd.calls k1 g s0_0 x1001_1 a1 true t138 w0 _ ?side1 ?side2 A15.out).mono ?_); (case side1 => exact IsS99.below HI0.out lt_); (case side2 => exact below_at HB.out); rintro e w17 ⟨rfl, hi, hb, hk⟩; refine ⟨_, rfl, ?_⟩; replace HO_7 := mk_ (Kd.S_mono (Kd.S_keep (IsS99.apartS (show IsS99 w0 _ g s0_0 x1001_1 from IsS99.below HI0.out lt_) (Kd.S_below HO_7.out lt_) (by decide)) hk (fun _ h => h.2)) (fun _ h => h.1)); replace HK := mk_ (KeepBut.trans (keep_at HK.out) hk (.inl rfl)); replace HB := mk_ (hb); replace HI0 := mk_ (hi); (try clear hb)))
  (try simp only [Act.put, z0_, z1_, z2_])
  go_loopg [7] k1 (fun kq v7 w' => ∃ (x7_2 : List (S79)), Aside0 (spec_l20Story.l1 kq (wrap64 (1 + t122)) x7_2 s0_0 t138 = some (r1, r2, r3)) ∧ Aside0 (kq ≤ k1) ∧ Aside0 (Kd.S k79 79 w' w.heap.size (fun _ => True) v7 x7_2) ∧ Aside0 (IsS99 w0 w' g s0_0 t138) ∧ Aside0 (KeepBut w w' g none) ∧ Aside0 (Below w0.heap.size w0 w'))
  case atStart => exact ⟨(x7_1), H', ⟨Nat.le_refl _⟩, ⟨Kd.S_below HO_7.out lt_⟩, ⟨IsS99.below HI0.out lt_⟩, ⟨keep_at HK.out⟩, ⟨below_at HB.out⟩⟩
  clear H'
  try clear c1
  try clear p2
  try clear c5
  try clear p6
  try clear c7
  try clear c8
  try clear c9
  try clear c9b0
  try clear c11
  try clear c16
  try clear p2
  try clear p6
  obtain ⟨x7_2, HA, HK2, HO_7, HI0, HK, HB⟩ := hrel
  cases gk with
  | zero => exact absurd HA.out (by simp [spec_l20Story.l1])
  | succ k2 =>
   have H := HA.out
   clear HA
   simp only [spec_l20Story.l1] at H
   revert H; refine ti_ (fun c18 H => ?_) fun c18 H => ?_
   ·have c18b0 : decide ((x7_2.length : Int) < 7) = false := decide_eq_false c18
    have c18b1 : decide (x7_2.length < 7) = false := decide_eq_false (by omega)
    clear c18
    simp only [Option.some.injEq, Prod.mk.injEq] at H
    obtain ⟨rfl, rfl, rfl⟩ := H
    obtain ⟨Ao25, co25, eo25⟩ := Kd.S_slice HO_7.out
    subst eo25
    go_wp2
    go_ret2
    exact ⟨_, er_, by (with_reducible repeat (first | apply Kd.S_alloc | apply Kd.S_drewN | apply Kd.S_drew)); exact HO_7.out, IsS99.below HI0.out lt_, below_at HB.out, keep_at HK.out⟩
   have c18b0 : decide ((x7_2.length : Int) < 7) = true := decide_eq_true c18
   have c18b1 : decide (x7_2.length < 7) = true := decide_eq_true (by omega)
   clear c18
   obtain ⟨y139, hy139⟩ : ∃ y_ : List (S82), y_ = (([(⟨0, 0⟩ : S82)] : List (S82))) := ⟨_, rfl⟩
   first | (replace H := bn_ hy139 H; try dsimp only at H) | rw [← hy139] at H
   have Ny139 := mk_ hy139
   clear hy139
   revert H; refine g_ (mt_ fun LMc19 H => ?_)
   obtain ⟨y142, hy142⟩ : ∃ y_ : List (S79), y_ = (x7_2 ++ [(⟨0, y139⟩ : S79)]) := ⟨_, rfl⟩
   first | (replace H := bn_ hy142 H; try dsimp only at H) | rw [← hy142] at H
   have Ny142 := mk_ hy142
   clear hy142
   have H' := mk_ H
   clear H
   obtain ⟨Ao20, co20, eo20⟩ := Kd.S_slice HO_7.out
   subst eo20
   go_wp2_with (first | ((with_reducible refine gate_dst (N := 35) rfl ?_); refine Kd.R_lit k82 _ 82 ?hg (N := 35) ?hd (xs := ([(⟨0, 0⟩ : S82)] : List (S82))) (inner := [.int .i64 0, .int .i64 0]) (ok := fun _ => True) (okp := fun _ => True) ?hr ?hp (fun _ hk => hk) trivial (Below.refl _ _) (Nat.le_refl _) (by simp) ?_; (case hd => rfl); (case hg => rfl); (case hr => first | (go_simp; done) | (go_simp; rfl)); (case hp => exact (Reps.c2 (show Kd.M k82 _ _ _ (⟨0, 0⟩ : S82) [.int .i64 0, .int .i64 0] from (k82_mkM _ _ _ (⟨0, 0⟩ : S82) )) (Reps.none _ _))); intro v140 w21 ho22 hb hg_ hnew_; clear hg_ hnew_; (first | rw [← Ny139.out] at ho22 | (simp only [Int.reduceToNat] at ho22; rw [← Ny139.out] at ho22)); replace HO_7 := mk_ (Kd.S_elder' (Kd.S_below HO_7.out lt_) (Kd.R_base ho22) hb); have HO141 := mk_ (Kd.R_lower ho22 (keep_size (w := w) (g := g) (row := none) (keep_at HK.out))); replace HI0 := mk_ (IsS99.below (IsS99.below HI0.out lt_) hb); replace HK := mk_ (KeepBut.trans (keep_at HK.out) (KeepBut.of_below hb g none) (.inl rfl)); replace HB := mk_ (below_step (below_at HB.out) hb); clear hb ho22; obtain ⟨Ao23, co23, eo23⟩ := Kd.R_slice HO141.out; subst eo23) | ((with_reducible refine gate_builtin (b := .append) (xs := #[.tmp 33, .tmp 37]) rfl ?_); at_builtin; refine Kd.S_append k79 w.heap.size rfl (.tmp 33) (.tmp 37) 23 79 (.agg #[(.int .i64 0), (.slice none 0 0)]) 32 rfl Tryd.underlying23 info79 rfl (by decide) (by omega) (.slice Ao20 x7_2.length co20) x7_2 (⟨0, y139⟩ : S79) [.int .i64 0, .slice Ao23 y139.length co23] (fun _ => True) (fun k_ => some k_ = (.slice Ao23 y139.length co23 : Value).ownBlock) rfl rfl ?aP (fun k_ hk_ => ((Kd.R_mono (ok' := fun k_ => ((fun _ => True)) k_ ∧ some k_ ≠ (.slice Ao20 x7_2.length co20 : Value).ownBlock) (Kd.R_apart' (HO141.out) (Kd.S_typed HO_7.out) (by decide)) (fun k_ hk => ⟨trivial, hk.2⟩))).1 k_ hk_.symm) ?aF ?aO (Below.refl _ _) ?aS ?aL ?_; (case aP => exact k79_mkM _ _ _ (⟨0, y139⟩ : S79) (Kd.R_mono (Kd.R_tight rfl (Kd.R_mono (ok' := fun k_ => ((fun _ => True)) k_ ∧ some k_ ≠ (.slice Ao20 x7_2.length co20 : Value).ownBlock) (Kd.R_apart' (HO141.out) (Kd.S_typed HO_7.out) (by decide)) (fun k_ hk => ⟨trivial, hk.2⟩))) (fun _ h_ => h_))); (case aF => exact (fun _ _ => trivial)); (case aO => exact (Kd.S_below (Kd.S_mono HO_7.out (fun k_ hk => ⟨trivial, fun e_ => hk.2 e_⟩)) lt_)); (case aS => exact (keep_size (w := w) (g := g) (row := none) (keep_at HK.out))); (case aL => have := LMc19.out; omega); intro v143 w24 ho hb hg hat; rw [← Ny142.out] at ho; replace HI0 := mk_ (IsS99.grown (IsS99.below HI0.out lt_) hg (IsS99.own_neS HI0.out HO_7.out (by decide))); replace HB := mk_ (below_weaken (below_at HB.out) HL.out hb); replace HK := mk_ (KeepBut.trans (keep_at HK.out) (KeepBut.of_grown hg g) (Kd.S_base2 HO_7.out)); have HO144 := mk_ (ho); (try clear HO_7 HO141); clear ho hb hg hat))
   go_roundg k2
   case measure => have := HK1.out; have := HK2.out; omega
   case rel => exact ⟨(y142), H', ⟨by have := HK1.out; have := HK2.out; omega⟩, ⟨Kd.S_below HO144.out lt_⟩, ⟨IsS99.below HI0.out lt_⟩, ⟨keep_at HK.out⟩, ⟨below_at HB.out⟩⟩
def spec_l1In.f (a0 : Int) (a1 : Int) (a2 : Int) : Option (Bool) := if a0 ≥ a1 then (some (decide (a0 ≤ a2))) else (some false)
set_option maxHeartbeats 8000000 in
set_option maxRecDepth 100000 in
theorem spec_l1In.calls (a0 : Int) (a1 : Int) (a2 : Int) (r : Bool) (w : World) (h : spec_l1In.f a0 a1 a2 = some r) :
  Calls Tryd.prog 80 #[.int .i64 a0, .int .i64 a1, .int .i64 a2] w fun e w' => e = .returned (.bool r) ∧ Drawn0 w w' := by
 have H : (if a0 ≥ a1 then (some (decide (a0 ≤ a2))) else (some false)) = some r := h
 clear h
 revert H; refine it_ (dt_e fun c4b0 H => ?_) (df_e fun c4b0 H => ?_)
 ·obtain rfl := Option.some.inj H
  go_enter Tryd.func80, Tryd.ntmps80
  go_wp2
  go_ret
  exact ⟨sm_, by repeat (first | exact Drawn0.refl _ | apply Drawn0.step)⟩
 obtain rfl := Option.some.inj H
 go_enter Tryd.func80, Tryd.ntmps80
 go_wp2
 go_ret
 exact ⟨sm_, by repeat (first | exact Drawn0.refl _ | apply Drawn0.step)⟩
def spec_TableOk.f (a0 : Int) (a1 : Int) : Option (Bool) := (spec_l1In.f a0 1 4).bind fun t145 => (if t145 = true then (if 0 ≤ a0 then ((spec_l1In.f a1 0 (wrap64 ((shl .i64 1 (shl .u64 1 a0)) - 1))).bind fun t146 => (some t146)) else (none)) else (some false))
set_option maxHeartbeats 8000000 in
set_option maxRecDepth 100000 in
theorem spec_TableOk.calls (a0 : Int) (a1 : Int) (r : Bool) (w : World) (h : spec_TableOk.f a0 a1 = some r) :
  Calls Tryd.prog 88 #[.int .i64 a0, .int .i64 a1] w fun e w' => e = .returned (.bool r) ∧ Drawn0 w w' := by
 unfold spec_TableOk.f at h
 have H := h
 clear h
 revert H; refine bd_ fun t145 A3 H => ?_
 try dsimp only at H
 revert H; refine bi_ ?_ ?_ <;> rintro rfl H
 ·obtain rfl := Option.some.inj H
  go_enter Tryd.func88, Tryd.ntmps88
  go_wp2_with (first | (refine gc_ 80 (some 6) Tryd.func80 #[.int .i64 a0, .int .i64 1, .int .i64 4] ?_; (with_reducible refine (spec_l1In.calls a0 1 4 false _ A3.out).mono ?_); rintro e w' ⟨rfl, ⟨nd, rfl⟩⟩; refine ⟨_, rfl, ?_⟩))
  go_ret
  exact ⟨sm_, by repeat (first | exact Drawn0.refl _ | apply Drawn0.step)⟩
 revert H; refine g_ (et_ fun c5b0 c5b1 H => ?_)
 obtain ⟨ji6, hji6⟩ : ∃ j_ : Int, (shl .u64 1 a0) = j_ := ⟨_, rfl⟩
 first | rw [hji6] at H | simp only [hji6] at H
 (try rw [hji6] at A3)
 have hji6n : 0 ≤ ji6 := by rw [← hji6]; unfold shl; generalize (1 : Int) * 2 ^ min a0.toNat (IntKind.bits .u64) = q_; simp [IntKind.wrap, IntKind.bits, IntKind.signed]; omega
 have hji6e := eq_true hji6n
 have hji6f : decide (ji6 < 0) = false := decide_eq_false (Int.not_lt.mpr hji6n)
 clear hji6n
 have hji6_ : (IntKind.u64.wrap (1 * 2 ^ min a0.toNat 64)) = ji6 := hji6
 have hji6z : a0 ≤ 64 → (IntKind.u64.wrap (1 * 2 ^ a0.toNat)) = ji6 := shl_small hji6
 have hji6u : (IntKind.u64.wrap (2 ^ min a0.toNat 64)) = ji6 := by have h_ := hji6_; rw [Int.one_mul] at h_; exact h_
 have hji6v : a0 ≤ 64 → (IntKind.u64.wrap (2 ^ a0.toNat)) = ji6 := fun hle_ => by have h_ := hji6z hle_; rw [Int.one_mul] at h_; exact h_
 obtain ⟨ji7, hji7⟩ : ∃ j_ : Int, (shl .i64 1 (ji6)) = j_ := ⟨_, rfl⟩
 first | rw [hji7] at H | simp only [hji7] at H
 (try rw [hji7] at A3)
 have hji7_ : (IntKind.i64.wrap (1 * 2 ^ min (ji6).toNat 64)) = ji7 := hji7
 have hji7z : (ji6) ≤ 64 → (IntKind.i64.wrap (1 * 2 ^ (ji6).toNat)) = ji7 := shl_small hji7
 have hji7u : (IntKind.i64.wrap (2 ^ min (ji6).toNat 64)) = ji7 := by have h_ := hji7_; rw [Int.one_mul] at h_; exact h_
 have hji7v : (ji6) ≤ 64 → (IntKind.i64.wrap (2 ^ (ji6).toNat)) = ji7 := fun hle_ => by have h_ := hji7z hle_; rw [Int.one_mul] at h_; exact h_
 have hji7y : (wrap64 (1 * 2 ^ min (ji6).toNat 64)) = ji7 := (i64_w _).symm.trans hji7_
 have hji7x : (ji6) ≤ 64 → (wrap64 (1 * 2 ^ (ji6).toNat)) = ji7 := fun h_ => (i64_w _).symm.trans (hji7z h_)
 replace H := Option.bind_eq_some_iff.mp H
 obtain ⟨t146, A80, H⟩ := H
 replace H : (some t146) = some r := H
 have A8 := mk_ A80
 clear A80
 obtain rfl := Option.some.inj H
 go_enter Tryd.func88, Tryd.ntmps88
 go_wp2_with (first | (refine gc_ 80 (some 6) Tryd.func80 #[.int .i64 a0, .int .i64 1, .int .i64 4] ?_; (with_reducible refine (spec_l1In.calls a0 1 4 true _ A3.out).mono ?_); rintro e w' ⟨rfl, ⟨nd, rfl⟩⟩; refine ⟨_, rfl, ?_⟩) | (go_at_call 80; (with_reducible refine (spec_l1In.calls a1 0 (wrap64 ((ji7) - 1)) t146 _ A8.out).mono ?_); rintro e w' ⟨rfl, ⟨nd, rfl⟩⟩))
 go_ret
 exact ⟨by first | rfl | (simp; done) | (simp only [← hji6, ← hji7] <;> (first | rfl | simp)) | (simp [*]; done), by repeat (first | exact Drawn0.refl _ | apply Drawn0.step)⟩
mutual
def spec_WorldsIn.l0 : Nat → Int → Int → List Int → Int → Option (List Int)
 | 0, _, _, _, _ => none
 | k + 1, x0, x1, x5, x6 => (spec_TableOk.f x0 x1).bind fun t150 => (if t150 = true then (if 0 ≤ x0 then (spec_WorldsIn.j1 k x0 x1 x5 x6 (decide (x6 < (shl .i64 1 x0)))) else (none)) else (spec_WorldsIn.j1 k x0 x1 x5 x6 false))
def spec_WorldsIn.j1 : Nat → Int → Int → List Int → Int → Bool → Option (List Int)
 | 0, _, _, _, _, _ => none
 | k + 1, x0, x1, x5, x6, x16 => if x16 = true then (if 0 ≤ x6 then (if (Int.tmod (shr .i64 x1 x6) 2) = 1 then (if x5.length < 17592186044416 then (spec_WorldsIn.l0 k x0 x1 (x5 ++ [x6]) (wrap64 (x6 + 1))) else (none)) else (spec_WorldsIn.l0 k x0 x1 x5 (wrap64 (x6 + 1)))) else (none)) else (some x5)
end
def spec_WorldsIn.f (k : Nat) (a0 : Int) (a1 : Int) : Option (List Int) := spec_WorldsIn.l0 k a0 a1 (([] : List Int)) 0
set_option maxHeartbeats 8000000 in
set_option maxRecDepth 100000 in
theorem spec_WorldsIn.calls (k : Nat) (a0 : Int) (a1 : Int) (r : List Int) (w : World) (h : spec_WorldsIn.f k a0 a1 = some r) :
  Calls Tryd.prog 75 #[.int .i64 a0, .int .i64 a1] w fun e w' => ∃ v0_ : Value, e = .returned (v0_) ∧ Kd.R (Kd.int .i64) 3 w' w.heap.size (fun _ => True) v0_ r ∧ Below w.heap.size w w' := by
 have HB := mk_ (Below.refl w.heap.size w)
 have H : (spec_WorldsIn.l0 k a0 a1 (([] : List Int)) 0) = some r := h
 clear h
 obtain ⟨y147, hy147⟩ : ∃ y_ : List Int, y_ = (([] : List Int)) := ⟨_, rfl⟩
 replace H : (spec_WorldsIn.l0 k a0 a1 y147 0) = some r := by first | (rw [hy147]; exact H) | exact H
 have Ny147 := mk_ hy147
 clear hy147
 have H' := mk_ H
 clear H
 go_enter Tryd.func75, Tryd.ntmps75
 go_wp2_with (first | ((with_reducible refine gate_dst (N := 7) rfl ?_); refine Kd.R_lit (Kd.int .i64) _ 3 ?hg (N := 7) ?hd (xs := ([] : List Int)) (inner := []) (ok := fun _ => True) (okp := fun _ => True) ?hr ?hp (fun _ hk => hk) trivial (Below.refl _ _) (Nat.le_refl _) (by simp) ?_; (case hd => rfl); (case hg => rfl); (case hr => first | (go_simp; done) | (go_simp; rfl)); (case hp => exact (Reps.none _ _)); intro v148 w3 ho4 hb hg_ hnew_; clear hg_ hnew_; (first | rw [← Ny147.out] at ho4 | (simp only [Int.reduceToNat] at ho4; rw [← Ny147.out] at ho4)); have HO149 := mk_ (Kd.R_lower ho4 (below_size (below_at HB.out))); replace HB := mk_ (below_step (below_at HB.out) hb); clear hb ho4))
 go_loopg [5, 6] k (fun kq v5 v6 w' => ∃ (x5_1 : List Int) (x6_1 : Int), v6 = .int .i64 x6_1 ∧ Aside0 (spec_WorldsIn.l0 kq a0 a1 x5_1 x6_1 = some r) ∧ Aside0 (kq ≤ k) ∧ Aside0 (Kd.R (Kd.int .i64) 3 w' w.heap.size (fun _ => True) v5 x5_1) ∧ Aside0 (Below w.heap.size w w'))
 case atStart => exact ⟨(y147), (0), sm_, H', ⟨Nat.le_refl _⟩, ⟨Kd.R_below HO149.out lt_⟩, ⟨below_at HB.out⟩⟩
 clear H'
 try clear p2
 obtain ⟨x5_1, x6_1, rfl, HA, HK1, HO_5, HB⟩ := hrel
 cases gk with
 | zero => exact absurd HA.out (by simp [spec_WorldsIn.l0])
 | succ k1 =>
  have H := HA.out
  clear HA
  simp only [spec_WorldsIn.l0] at H
  have HC5 := mk_ H
  clear H
  go_upto_region 3 with (fail)
  go_cut [16] (fun v16 wc => ∃ (kq : Nat) (x16_4 : Bool), v16 = .bool x16_4 ∧ Aside0 (spec_WorldsIn.j1 kq a0 a1 x5_1 x6_1 x16_4 = some r) ∧ Aside0 (kq ≤ k1) ∧ Aside0 (Kd.R (Kd.int .i64) 3 wc w.heap.size (fun _ => True) u5 x5_1) ∧ Aside0 (Below w.heap.size w wc))
  case first =>
   have H := HC5.out
   clear HC5
   revert H; refine bd_ fun t150 A6 H => ?_
   try dsimp only at H
   revert H; refine bi_ ?_ ?_ <;> rintro rfl H
   ·have H' := mk_ H
    clear H
    go_wp2_with (first | (refine gc_ 88 (some 10) Tryd.func88 #[.int .i64 a0, .int .i64 a1] ?_; (with_reducible refine (spec_TableOk.calls a0 a1 false _ A6.out).mono ?_); rintro e w' ⟨rfl, ⟨nd, rfl⟩⟩; refine ⟨_, rfl, ?_⟩))
    go_meet
    case rel => exact ⟨_, (false), sm_, H', ⟨by have := HK1.out; first | omega | exact Nat.le_refl _⟩, ⟨Kd.R_below HO_5.out lt_⟩, ⟨below_at HB.out⟩⟩
   revert H; refine g_ (et_ fun c8b0 c8b1 H => ?_)
   obtain ⟨ji9, hji9⟩ : ∃ j_ : Int, (shl .i64 1 a0) = j_ := ⟨_, rfl⟩
   first | rw [hji9] at H | simp only [hji9] at H
   (try rw [hji9] at A6)
   have hji9_ : (IntKind.i64.wrap (1 * 2 ^ min a0.toNat 64)) = ji9 := hji9
   have hji9z : a0 ≤ 64 → (IntKind.i64.wrap (1 * 2 ^ a0.toNat)) = ji9 := shl_small hji9
   have hji9u : (IntKind.i64.wrap (2 ^ min a0.toNat 64)) = ji9 := by have h_ := hji9_; rw [Int.one_mul] at h_; exact h_
   have hji9v : a0 ≤ 64 → (IntKind.i64.wrap (2 ^ a0.toNat)) = ji9 := fun hle_ => by have h_ := hji9z hle_; rw [Int.one_mul] at h_; exact h_
   have hji9y : (wrap64 (1 * 2 ^ min a0.toNat 64)) = ji9 := (i64_w _).symm.trans hji9_
   have hji9x : a0 ≤ 64 → (wrap64 (1 * 2 ^ a0.toNat)) = ji9 := fun h_ => (i64_w _).symm.trans (hji9z h_)
   have H' := mk_ H
   clear H
   go_wp2_with (first | (refine gc_ 88 (some 10) Tryd.func88 #[.int .i64 a0, .int .i64 a1] ?_; (with_reducible refine (spec_TableOk.calls a0 a1 true _ A6.out).mono ?_); rintro e w' ⟨rfl, ⟨nd, rfl⟩⟩; refine ⟨_, rfl, ?_⟩))
   go_meet
   case rel => exact ⟨_, (decide (x6_1 < (ji9))), (by first | rfl | (simp; done) | (simp only [← hji9] <;> (first | rfl | simp)) | (simp [*]; done)), H', ⟨by have := HK1.out; first | omega | exact Nat.le_refl _⟩, ⟨Kd.R_below HO_5.out lt_⟩, ⟨below_at HB.out⟩⟩
  clear HC5
  try clear p2
  try clear p6
  try clear c7
  try clear c8
  try clear c8b0
  try clear c8b1
  try clear p2
  obtain ⟨kq, x16_4, rfl, HA, HJ4, HO_5, HB⟩ := hcut
  cases kq with
  | zero => exact absurd HA.out (by simp [spec_WorldsIn.j1])
  | succ kj4 =>
   have H := HA.out
   clear HA
   simp only [spec_WorldsIn.j1] at H
   revert H; refine bi_ ?_ ?_ <;> rintro rfl H
   ·obtain rfl := Option.some.inj H
    go_wp2
    go_ret
    exact ⟨_, er_, rl_ HO_5.out, below_at HB.out⟩
   revert H; refine g_ (et_ fun c11b0 c11b1 H => ?_)
   obtain ⟨ji12, hji12⟩ : ∃ j_ : Int, (shr .i64 a1 x6_1) = j_ := ⟨_, rfl⟩
   first | rw [hji12] at H | simp only [hji12] at H
   have hji12_ : (a1 / 2 ^ min x6_1.toNat 64) = ji12 := hji12
   have hji12z : x6_1 ≤ 64 → (a1 / 2 ^ x6_1.toNat) = ji12 := shr_small hji12
   revert H; refine ti_ (qfk_ fun c13 c13b0 c13b1 H => ?_) (qt_ fun c13b0 c13b1 H => ?_)
   ·have H' := mk_ H
    clear H
    go_wp2
    go_roundg kj4
    case measure => have := HK1.out; have := HJ4.out; omega
    case rel => exact ⟨(x5_1), (wrap64 (x6_1 + 1)), sm_, H', ⟨by have := HK1.out; have := HJ4.out; omega⟩, ⟨Kd.R_below HO_5.out lt_⟩, ⟨below_at HB.out⟩⟩
   revert H; refine g_ (mt_ fun LMc14 H => ?_)
   obtain ⟨y151, hy151⟩ : ∃ y_ : List Int, y_ = (x5_1 ++ [x6_1]) := ⟨_, rfl⟩
   first | (replace H := bn_ hy151 H; try dsimp only at H) | rw [← hy151] at H
   have Ny151 := mk_ hy151
   clear hy151
   have H' := mk_ H
   clear H
   go_wp2_with (first | ((with_reducible refine gate_builtin (b := .append) (xs := #[.tmp 24, .tmp 26]) rfl ?_); at_builtin; refine Kd.R_append (Kd.int .i64) (w0 := w) w.heap.size rfl (.tmp 24) (.tmp 26) 103 3 (.int .i64 0) 8 rfl Tryd.underlying103 info3 rfl (by decide) (by omega) u5 x5_1 x6_1 [.int .i64 x6_1] (fun _ => True) (fun _ => False) rfl rfl ?aP (fun _ hk => hk.elim) ?aF ?aO ?aB ?aS ?aL ?_; (case aP => exact rfl); (case aB => exact (below_at HB.out)); (case aF => exact (fun _ _ => trivial)); (case aO => exact (Kd.R_below HO_5.out lt_)); (case aS => exact (below_size (below_at HB.out))); (case aL => have := LMc14.out; omega); intro v152 w15 ho hb hg hat; rw [← Ny151.out] at ho; replace HB := mk_ (hb); have HO153 := mk_ (ho); (try clear HO_5); clear ho hb hg hat))
   go_roundg kj4
   case measure => have := HK1.out; have := HJ4.out; omega
   case rel => exact ⟨(y151), (wrap64 (x6_1 + 1)), sm_, H', ⟨by have := HK1.out; have := HJ4.out; omega⟩, ⟨Kd.R_below HO153.out lt_⟩, ⟨below_at HB.out⟩⟩
end Go.Proofs.YtcaogllnbpmcgaaDoor.P

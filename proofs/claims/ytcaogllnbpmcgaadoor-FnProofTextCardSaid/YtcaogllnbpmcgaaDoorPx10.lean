/- Go's functions come to just the answers of the Lean functions told here. -/
import Derived.Test.YtcaogllnbpmcgaaDoorPx9
namespace Go.Proofs.YtcaogllnbpmcgaaDoor.P
open Go.RowKit Go.Proofs.YtcaogllnbpmcgaaDoorW.PrintWords Go.Proofs.YtcaogllnbpmcgaaDoorW.PrintLast Go.Proofs.YtcaogllnbpmcgaaDoorW.PrintMore
attribute [local go_sem] max2_int min2_int max_two min_two max_three min_three max_four min_four
set_option linter.unusedVariables false
set_option linter.unusedSimpArgs false
def spec_l20Open.f (l0 : List Int) : Option (List Int × Int) := if (l0.length : Int) > 2000 then (if 2000 ≤ (l0.length : Int) then (some (l0.take 2000, 0)) else (none)) else (some (l0, 0))
set_option maxHeartbeats 8000000 in
set_option maxRecDepth 100000 in
theorem spec_l20Open.calls (A0 : Option Addr) (c0 : Nat) (l0 : List Int) (r1 : List Int) (r2 : Int) (w0 w : World) (hB : Below w0.heap.size w0 w) (hr0 : Kd.C (Kd.int .u8) w0 A0 l0.length l0) (hc0 : l0.length ≤ c0) (h : spec_l20Open.f l0 = some (r1, r2)) :
  Calls Tryd.prog 30 #[.slice A0 l0.length c0] w fun e w' => ∃ g_ : Nat, e = .returned (.pointer (some ⟨g_, 0, none⟩)) ∧ IsS99 w0 w' g_ r1 r2 ∧ Below w0.heap.size w0 w' ∧ Below w.heap.size w w' := by
 have hu99 := Tryd.underlying99
 have HR0 := mk_ hr0
 have HC0 := mk_ hc0
 clear hr0 hc0
 have HBW := mk_ (Below.refl w.heap.size w)
 have HW0 := mk_ hB.size
 have HB := mk_ hB
 clear hB
 unfold spec_l20Open.f at h
 have H := h
 clear h
 revert H; refine ti_ (fun c2 H => ?_) fun c2 H => ?_
 ·have c2b0 : decide (2000 < (l0.length : Int)) = false := decide_eq_false c2
  have c2b1 : decide (2000 < l0.length) = false := decide_eq_false (by omega)
  clear c2
  simp only [Option.some.injEq, Prod.mk.injEq] at H
  obtain ⟨rfl, rfl⟩ := H
  go_enter Tryd.func30, Tryd.ntmps30
  go_wp2_with (first | (refine gx_ 10 #[.slice A0 l0.length c0, .int .i64 0] 99 ?_; intro gb335 hg w6 hbox hb; replace HB := mk_ (below_step (below_at HB.out) hb); have BK335 := mk_ (hbox); have GW335 := mk_ ((by rw [hg]; exact (below_size (by repeat (first | (with_reducible first | exact HBW.out | apply below_alloc | apply pw_below_drewN | apply below_drew1) | exact HBW.out))) : w.heap.size ≤ gb335)); have GE335 := mk_ ((Nat.le_trans HW0.out (by rw [hg]; exact (below_size (by repeat (first | (with_reducible first | exact HBW.out | apply below_alloc | apply pw_below_drewN | apply below_drew1) | exact HBW.out))) : w.heap.size ≤ gb335) : w0.heap.size ≤ gb335)); replace HBW := mk_ (below_step HBW.out hb); clear hb hbox hg))
  go_ret
  exact ⟨_, rfl, (show IsS99 w0 _ gb335 l0 0 from ⟨_, _, by refine bs_ ?_; exact BK335.out, GE335.out, HR0.out⟩), by repeat (first | (with_reducible first | exact HB.out | apply below_alloc | apply pw_below_drewN | apply below_drew1 | refine below_set ?_ GE335.out) | exact HB.out), by repeat (first | (with_reducible first | exact HBW.out | apply below_alloc | apply pw_below_drewN | apply below_drew1 | refine below_set ?_ GW335.out) | exact HBW.out)⟩
 have c2b0 : decide (2000 < (l0.length : Int)) = true := decide_eq_true c2
 have c2b1 : decide (2000 < l0.length) = true := decide_eq_true (by omega)
 clear c2
 revert H; refine g_ (et_ fun c3b0 c3b1 H => ?_)
 simp only [Option.some.injEq, Prod.mk.injEq] at H
 obtain ⟨rfl, rfl⟩ := H
 obtain ⟨i04, hi04, _, hsz4, _⟩ := info_parts info5
 obtain ⟨hcut4, hA4, hC4⟩ := print_take_of (P := Tryd.prog) (Value.int .u8) 0 22 5 .i64 Tryd.underlying22 hi04 hsz4 A0 c0 l0 2000 (by omega) (oa_) HC0.out
 have HR333 := mk_ (Kd.C_of_reads (h1 := fun _ => rfl) (hA4 _ (Kd.reads_of_C HR0.out)))
 have HC333 := mk_ hC4
 clear hA4 hC4 hi04 hsz4
 go_enter Tryd.func30, Tryd.ntmps30
 go_wp2_with (first | (refine gx_ 10 #[.slice A0 (l0.take 2000).length c0, .int .i64 0] 99 ?_; intro gb334 hg w5 hbox hb; replace HB := mk_ (below_step (below_at HB.out) hb); have BK334 := mk_ (hbox); have GW334 := mk_ ((by rw [hg]; exact (below_size (by repeat (first | (with_reducible first | exact HBW.out | apply below_alloc | apply pw_below_drewN | apply below_drew1) | exact HBW.out))) : w.heap.size ≤ gb334)); have GE334 := mk_ ((Nat.le_trans HW0.out (by rw [hg]; exact (below_size (by repeat (first | (with_reducible first | exact HBW.out | apply below_alloc | apply pw_below_drewN | apply below_drew1) | exact HBW.out))) : w.heap.size ≤ gb334) : w0.heap.size ≤ gb334)); replace HBW := mk_ (below_step HBW.out hb); clear hb hbox hg))
 go_ret
 exact ⟨_, rfl, (show IsS99 w0 _ gb334 (l0.take 2000) 0 from ⟨_, _, by refine bs_ ?_; exact BK334.out, GE334.out, HR333.out⟩), by repeat (first | (with_reducible first | exact HB.out | apply below_alloc | apply pw_below_drewN | apply below_drew1 | refine below_set ?_ GE334.out) | exact HB.out), by repeat (first | (with_reducible first | exact HBW.out | apply below_alloc | apply pw_below_drewN | apply below_drew1 | refine below_set ?_ GW334.out) | exact HBW.out)⟩
def spec_DrawProofText.f (k : Nat) (l0 : List Int) : Option (Int × (List (S79)) × (List (S82)) × Int × (List (S68))) := (spec_l20Open.f l0).bind fun bt337 => ((spec_l20Proof.f k bt337.1 bt337.2 9).bind fun bt340 => (some (bt340.1, bt340.2.1, bt340.2.2.1, bt340.2.2.2.1, bt340.2.2.2.2.1)))
set_option maxHeartbeats 8000000 in
set_option maxRecDepth 100000 in
theorem spec_DrawProofText.calls (k : Nat) (A0 : Option Addr) (c0 : Nat) (l0 : List Int) (r1 : Int) (r2 : List (S79)) (r3 : List (S82)) (r4 : Int) (r5 : List (S68)) (w : World) (hr0 : Kd.C (Kd.int .u8) w A0 l0.length l0) (hc0 : l0.length ≤ c0) (h : spec_DrawProofText.f k l0 = some (r1, r2, r3, r4, r5)) :
  Calls Tryd.prog 7 #[.slice A0 l0.length c0] w fun e w' => ∃ v1_ v2_ v4_ : Value, e = .returned (.tuple #[.int .i64 r1, v1_, v2_, .agg #[.int .i64 r4, v4_]]) ∧ Kd.S k79 79 w' w.heap.size (fun k_ => some k_ ≠ (v2_ : Value).ownBlock) v1_ r2 ∧ Kd.R k82 82 w' w.heap.size (fun _ => True) v2_ r3 ∧ Kd.R k68 68 w' w.heap.size (fun _ => True) v4_ r5 ∧ Below w.heap.size w w' := by
 have hu27 := Tryd.underlying27
 have HR0 := mk_ hr0
 have HC0 := mk_ hc0
 clear hr0 hc0
 have HB := mk_ (Below.refl w.heap.size w)
 unfold spec_DrawProofText.f at h
 have H := h
 clear h
 replace H := bm_ H; obtain ⟨⟨t337, t338⟩, A2, H⟩ := H
 try dsimp only at H
 replace H := bm_ H; obtain ⟨⟨t340, t341, t344, t347, t348, t351⟩, A3, H⟩ := H
 try dsimp only at H
 simp only [Option.some.injEq, Prod.mk.injEq] at H
 obtain ⟨rfl, rfl, rfl, rfl, rfl⟩ := H
 go_enter Tryd.func7, Tryd.ntmps7
 go_wp2_with (first | (refine gx_ 5 #[.int .i64 0, .slice none 0 0] 27 ?_; intro gb336 hg w4 hbox hb; have BK336 := mk_ (hbox); have GW336 := gm_ hg HB.out; have GE336 := gm_ hg HB.out; replace HB := mk_ (below_step (below_at HB.out) hb); clear hb hbox hg) | (refine gc_ 30 (some 7) Tryd.func30 #[.slice A0 l0.length c0] ?_; (with_reducible refine (spec_l20Open.calls _ _ l0 t337 t338 w _ ?side1 ?side2 ?side3 A2.out).mono ?_); (case side1 => exact at_ HB.out); (case side2 => exact HR0.out); (case side3 => exact HC0.out); rintro e w5 ⟨g339, rfl, hi, hb, hb2⟩; refine ⟨_, rfl, ?_⟩; replace HB := mk_ (hb); have HI339 := mk_ (hi); have NB339_336 := mk_ (IsS99.ne_blk hi (blk_below (g := gb336) (o := .cells #[.int .i64 0, .slice none 0 0] 27 (0, 0)) (bk_ BK336.out) hb2) (by decide)); have NB336_339 := mk_ (Ne.symm (IsS99.ne_blk hi (blk_below (g := gb336) (o := .cells #[.int .i64 0, .slice none 0 0] 27 (0, 0)) (bk_ BK336.out) hb2) (by decide))); replace BK336 := mk_ (blk_below (g := gb336) (o := .cells #[.int .i64 0, .slice none 0 0] 27 (0, 0)) (bk_ BK336.out) hb2); (try clear hb)) | (refine gc_ 29 (some 8) Tryd.func29 #[.pointer (some ⟨g339, 0, none⟩), .int .i64 9] ?_; (with_reducible refine (spec_l20Proof.calls k g339 t337 t338 9 t340 t341 t344 t347 t348 t351 w _ ?side1 ?side2 A3.out).mono ?_); (case side1 => repeat (first | (with_reducible first | exact HI339.out | apply IsS99.alloc | apply IsS99.drewN | apply IsS99.drew | apply IsS99.set_1 | refine IsS99.far ?_ NB339_336.out _) | exact HI339.out)); (case side2 => repeat (first | (with_reducible first | exact HB.out | apply below_alloc | apply pw_below_drewN | apply below_drew1 | refine below_set ?_ (IsS99.ge HI339.out) | refine below_set ?_ GE336.out) | exact HB.out)); rintro e w6 ⟨v342, v345, v349, rfl, ho0, ho1, ho2, hi, hb, hk⟩; refine ⟨_, rfl, ?_⟩; replace BK336 := mk_ (KeepBut.blk hk (g' := gb336) (o := .cells #[.int .i64 0, .slice none 0 0] 27 (0, 0)) (bk_ BK336.out) NB336_339.out (by simp)); have HO343 := mk_ (Kd.S_lower ho0 (below_size (by repeat (first | (with_reducible first | exact HB.out | apply below_alloc | apply pw_below_drewN | apply below_drew1 | refine below_set ?_ (IsS99.ge HI339.out) | refine below_set ?_ GE336.out) | exact HB.out)))); have HO346 := mk_ (Kd.R_lower ho1 (below_size (by repeat (first | (with_reducible first | exact HB.out | apply below_alloc | apply pw_below_drewN | apply below_drew1 | refine below_set ?_ (IsS99.ge HI339.out) | refine below_set ?_ GE336.out) | exact HB.out)))); have HO350 := mk_ (Kd.R_lower ho2 (below_size (by repeat (first | (with_reducible first | exact HB.out | apply below_alloc | apply pw_below_drewN | apply below_drew1 | refine below_set ?_ (IsS99.ge HI339.out) | refine below_set ?_ GE336.out) | exact HB.out)))); replace HB := mk_ (hb); replace HI339 := mk_ (hi); (try clear hb); (try clear ho0); (try clear ho1); (try clear ho2); have hnb7 := NB336_339.out; have hnc7 := NB339_336.out; have hcz8_0 := blk_cell BK336.out 0; have hcz8_1 := blk_cell BK336.out 1; have hfz8_0 := blk_frozen BK336.out 0; have hfz8_1 := blk_frozen BK336.out 1; obtain ⟨Ao9, co9, eo9⟩ := Kd.R_slice HO350.out; subst eo9))
 refine bodyPost_ret (results_list (rs := [.tmp 2, .tmp 3, .tmp 4, .cell 5 27]) rfl (by simp) (.tmp (.tmp (.tmp (.cell gb336 27 #[.int .i64 t347, .slice Ao9 t348.length co9] (0, 0) _ rfl (by refine bs_ ?_; refine blk_put (cs := #[.int .i64 t347, .slice none 0 0]) ?_ 1 _ rfl; refine bs_ ?_; refine blk_put (cs := #[.int .i64 0, .slice none 0 0]) ?_ 0 _ rfl; refine bs_ ?_; exact BK336.out) Tryd.underlying27 rfl (by kernel_rfl) .nil))))) rfl ?_
 exact ⟨_, _, _, er_, by (with_reducible repeat (first | apply Kd.S_alloc | apply Kd.S_drewN | apply Kd.S_drew)); exact Kd.S_mono (Kd.S_far (p := ⟨gb336, 1, none⟩) (Kd.S_far (p := ⟨gb336, 0, none⟩) (Kd.S_types HO343.out BK336.out (by decide)) (fun _ hk => hk.2) (.int .i64 t347)) (fun _ hk => hk.2) (.slice Ao9 t348.length co9)) (fun _ hk => hk.1), by (with_reducible repeat (first | apply Kd.R_alloc | apply Kd.R_drewN | apply Kd.R_drew)); exact Kd.R_mono (Kd.R_far (p := ⟨gb336, 1, none⟩) (Kd.R_far (p := ⟨gb336, 0, none⟩) (Kd.R_types HO346.out BK336.out (by decide)) (fun _ hk => hk.2) (.int .i64 t347)) (fun _ hk => hk.2) (.slice Ao9 t348.length co9)) (fun _ hk => trivial), by (with_reducible repeat (first | apply Kd.R_alloc | apply Kd.R_drewN | apply Kd.R_drew)); exact Kd.R_mono (Kd.R_far (p := ⟨gb336, 1, none⟩) (Kd.R_far (p := ⟨gb336, 0, none⟩) (Kd.R_types HO350.out BK336.out (by decide)) (fun _ hk => hk.2) (.int .i64 t347)) (fun _ hk => hk.2) (.slice Ao9 t348.length co9)) (fun _ hk => trivial), by repeat (first | (with_reducible first | exact HB.out | apply below_alloc | apply pw_below_drewN | apply below_drew1 | refine below_set ?_ (IsS99.ge HI339.out) | refine below_set ?_ GE336.out) | exact HB.out)⟩
def impl_peopleOk.f (a0 : Int) : Option (Bool) := if a0 ≥ 1 then (some (decide (a0 ≤ 4))) else (some false)
set_option maxHeartbeats 8000000 in
set_option maxRecDepth 100000 in
theorem impl_peopleOk.calls (a0 : Int) (r : Bool) (w : World) (h : impl_peopleOk.f a0 = some r) :
  Calls Tryd.prog 64 #[.int .i64 a0] w fun e w' => e = .returned (.bool r) ∧ Drawn0 w w' := by
 have H : (if a0 ≥ 1 then (some (decide (a0 ≤ 4))) else (some false)) = some r := h
 clear h
 revert H; refine it_ (dt_e fun c2b0 H => ?_) (df_e fun c2b0 H => ?_)
 ·obtain rfl := Option.some.inj H
  go_enter Tryd.func64, Tryd.ntmps64
  go_wp2
  go_ret
  exact ⟨sm_, by repeat (first | exact Drawn0.refl _ | apply Drawn0.step)⟩
 obtain rfl := Option.some.inj H
 go_enter Tryd.func64, Tryd.ntmps64
 go_wp2
 go_ret
 exact ⟨sm_, by repeat (first | exact Drawn0.refl _ | apply Drawn0.step)⟩
mutual
def impl_TermOk.j0 : Nat → Int → List (S82) → Bool → Option (Bool)
 | 0, _, _, _ => none
 | k + 1, x0, x1, x20 => if x20 = true then (some false) else (impl_TermOk.l0 k x0 0 x1 (x1.length : Int) 0)
def impl_TermOk.l0 : Nat → Int → Int → List (S82) → Int → Int → Option (Bool)
 | 0, _, _, _, _, _ => none
 | k + 1, x0, x5, x21, x22, x23 => if x23 < x22 then (if 0 ≤ x23 then (if x23 < (x21.length : Int) then (if ((rd_T82 x21 x23).f0) = 0 then (if ((rd_T82 x21 x23).f1) < 0 then (some false) else (if ((rd_T82 x21 x23).f1) ≥ x0 then (some false) else (impl_TermOk.l0 k x0 (wrap64 (x5 + 1)) x21 x22 (wrap64 (x23 + 1))))) else (if ((rd_T82 x21 x23).f0) = 1 then (if ((rd_T82 x21 x23).f1) < 0 then (some false) else (if ((rd_T82 x21 x23).f1) > (wrap64 (x0 + 1)) then (some false) else (impl_TermOk.l0 k x0 (wrap64 (x5 + 1)) x21 x22 (wrap64 (x23 + 1))))) else (if ((rd_T82 x21 x23).f0) = 2 then (if ((rd_T82 x21 x23).f1) = 0 then (if x5 < 1 then (some false) else (impl_TermOk.l0 k x0 x5 x21 x22 (wrap64 (x23 + 1)))) else (some false)) else (if ((rd_T82 x21 x23).f0) = 3 then (impl_TermOk.j2 k x0 x5 x21 x22 x23 (((rd_T82 x21 x23).f0) == 3) ((rd_T82 x21 x23).f0) ((rd_T82 x21 x23).f1)) else (if ((rd_T82 x21 x23).f0) = 4 then (impl_TermOk.j2 k x0 x5 x21 x22 x23 (((rd_T82 x21 x23).f0) == 4) ((rd_T82 x21 x23).f0) ((rd_T82 x21 x23).f1)) else (impl_TermOk.j2 k x0 x5 x21 x22 x23 (((rd_T82 x21 x23).f0) == 5) ((rd_T82 x21 x23).f0) ((rd_T82 x21 x23).f1))))))) else (none)) else (none)) else (some (x5 == 1))
def impl_TermOk.j2 : Nat → Int → Int → List (S82) → Int → Int → Bool → Int → Int → Option (Bool)
 | 0, _, _, _, _, _, _, _, _ => none
 | k + 1, x0, x5, x21, x22, x23, x65, x355000, x355001 => if x65 = true then (if x355001 = 0 then (if x5 < 2 then (some false) else (impl_TermOk.l0 k x0 (wrap64 (x5 - 1)) x21 x22 (wrap64 (x23 + 1)))) else (some false)) else (some false)
end
def impl_TermOk.f (k : Nat) (a0 : Int) (l1 : List (S82)) : Option (Bool) := (impl_peopleOk.f a0).bind fun t352 => (if t352 = true then (if (l1.length : Int) < 1 then (impl_TermOk.j0 k a0 l1 true) else (impl_TermOk.j0 k a0 l1 (decide ((l1.length : Int) > 15)))) else (impl_TermOk.j0 k a0 l1 true))
set_option maxHeartbeats 8000000 in
set_option maxRecDepth 100000 in
theorem impl_TermOk.calls (k : Nat) (a0 : Int) (A1 : Option Addr) (c1 : Nat) (l1 : List (S82)) (r : Bool) (w : World) (hr1 : Kd.C k82 w A1 l1.length l1) (hc1 : l1.length ≤ c1) (h : impl_TermOk.f k a0 l1 = some r) :
  Calls Tryd.prog 35 #[.int .i64 a0, .slice A1 l1.length c1] w fun e w' => e = .returned (.bool r) ∧ Below w.heap.size w w' := by
 have hu82 := Tryd.underlying82
 have HR1 := mk_ hr1
 have HC1 := mk_ hc1
 clear hr1 hc1
 have HB := mk_ (Below.refl w.heap.size w)
 unfold impl_TermOk.f at h
 have H := h
 clear h
 have HC3 := mk_ H
 clear H
 go_enter Tryd.func35, Tryd.ntmps35
 go_upto_region 1 with (fail)
 go_cut [20] (fun v20 wc => ∃ (kq : Nat) (x20_2 : Bool), v20 = .bool x20_2 ∧ Aside0 (impl_TermOk.j0 kq a0 l1 x20_2 = some r) ∧ Aside0 (kq ≤ k) ∧ Aside0 (Below w.heap.size w wc))
 case first =>
  have H := HC3.out
  clear HC3
  revert H; refine bd_ fun t352 A4 H => ?_
  try dsimp only at H
  revert H; refine bi_ ?_ ?_ <;> rintro rfl H
  ·have H' := mk_ H
   clear H
   go_wp2_with (first | (refine gc_ 64 (some 9) Tryd.func64 #[.int .i64 a0] ?_; (with_reducible refine (impl_peopleOk.calls a0 false _ A4.out).mono ?_); rintro e w' ⟨rfl, ⟨nd, rfl⟩⟩; refine ⟨_, rfl, ?_⟩))
   go_meet
   case rel => exact ⟨_, (true), sm_, H', ⟨by first | omega | exact Nat.le_refl _⟩, ⟨below_at HB.out⟩⟩
  revert H; refine it_ (fun c6 H => ?_) fun c6 H => ?_
  ·have c6b0 : decide ((l1.length : Int) < 1) = true := decide_eq_true c6
   have c6b1 : decide (l1.length < 1) = true := decide_eq_true (by omega)
   clear c6
   (first | rw [c6b0] | (simp only [i64_w, i32_w]; rw [c6b0]) | skip)
   have H' := mk_ H
   clear H
   go_wp2_with (first | (refine gc_ 64 (some 9) Tryd.func64 #[.int .i64 a0] ?_; (with_reducible refine (impl_peopleOk.calls a0 true _ A4.out).mono ?_); rintro e w' ⟨rfl, ⟨nd, rfl⟩⟩; refine ⟨_, rfl, ?_⟩))
   go_meet
   case rel => exact ⟨_, (true), sm_, H', ⟨by first | omega | exact Nat.le_refl _⟩, ⟨below_at HB.out⟩⟩
  have c6b0 : decide ((l1.length : Int) < 1) = false := decide_eq_false c6
  have c6b1 : decide (l1.length < 1) = false := decide_eq_false (by omega)
  clear c6
  (first | rw [c6b0] | (simp only [i64_w, i32_w]; rw [c6b0]) | skip)
  have H' := mk_ H
  clear H
  go_wp2_with (first | (refine gc_ 64 (some 9) Tryd.func64 #[.int .i64 a0] ?_; (with_reducible refine (impl_peopleOk.calls a0 true _ A4.out).mono ?_); rintro e w' ⟨rfl, ⟨nd, rfl⟩⟩; refine ⟨_, rfl, ?_⟩))
  go_meet
  case rel => exact ⟨_, (decide ((l1.length : Int) > 15)), sm_, H', ⟨by first | omega | exact Nat.le_refl _⟩, ⟨below_at HB.out⟩⟩
 clear HC3
 try clear c1
 try clear p2
 try clear c3
 try clear c5
 try clear c6
 try clear c6b0
 try clear c6b1
 obtain ⟨kq, x20_2, rfl, HA, HJ2, HB⟩ := hcut
 cases kq with
 | zero => exact absurd HA.out (by simp [impl_TermOk.j0])
 | succ kj2 =>
  have H := HA.out
  clear HA
  simp only [impl_TermOk.j0] at H
  revert H; refine ib_ ?_ ?_ <;> rintro rfl H
  ·obtain rfl := Option.some.inj H
   go_wp2
   go_ret
   exact ⟨er_, below_at HB.out⟩
  have H' := mk_ H
  clear H
  go_wp2
  go_loopg [5, 23] kj2 (fun kq v5 v23 w' => ∃ (x5_2 : Int) (x23_2 : Int), v5 = .int .i64 x5_2 ∧ v23 = .int .i64 x23_2 ∧ Aside0 (impl_TermOk.l0 kq a0 x5_2 l1 (l1.length : Int) x23_2 = some r) ∧ Aside0 (kq ≤ kj2) ∧ Aside0 (Below w.heap.size w w'))
  case atStart => exact ⟨(0), (0), sm_, sm_, H', ⟨Nat.le_refl _⟩, ⟨below_at HB.out⟩⟩
  clear H'
  try clear c1
  try clear p2
  try clear c3
  try clear c5
  try clear c6
  try clear c6b0
  try clear c6b1
  try clear c7
  try clear p2
  obtain ⟨x5_2, x23_2, rfl, rfl, HA, HK2, HB⟩ := hrel
  cases gk with
  | zero => exact absurd HA.out (by simp [impl_TermOk.l0])
  | succ k2 =>
   have H := HA.out
   clear HA
   simp only [impl_TermOk.l0] at H
   revert H; refine ti_ (df_ fun c8b0 H => ?_) (dt_ fun c8b0 H => ?_)
   ·obtain rfl := Option.some.inj H
    go_wp2
    go_ret
    exact ⟨er_, below_at HB.out⟩
   revert H; refine g_ (dt_ fun c9b0 => g_ (dt_ fun c10b0 => it_ (qt_ fun c11b0 c11b1 H => ?_) (qfk_ fun c11 c11b0 c11b1 H => ?_)))
   ·revert H; refine it_ (dt_ fun c12b0 H => ?_) (df_ fun c12b0 H => ?_)
    ·obtain rfl := Option.some.inj H
     have p353 : 0 ≤ (x23_2 : Int) := oa_
     have q353 : x23_2 < (l1.length : Int) := oa_
     obtain ⟨ad353, e353, hx353_0, hx353_1⟩ := at_T82 HR1.out x23_2 p353 q353
     cases e353
     replace hx353_0 := cel HB.out hx353_0
     replace hx353_1 := cel HB.out hx353_1
     replace p353 := eq_true p353
     replace q353 := eq_true q353
     go_wp2_with (first | ((with_reducible refine gate_dst (N := 7) rfl ?_); (try (refine gate_guard (by rfl) ?_; dsimp only)); refine bx_ 7 #[.int .i64 0, .int .i64 0] 82 ?_; intro gb354 hg w13 hbox hb; have BK354 := mk_ (hbox); have GW354 := gm_ hg HB.out; have GE354 := gm_ hg HB.out; replace HB := mk_ (below_step (below_at HB.out) hb); clear hb hbox hg; have hcz14_0 := blk_cell BK354.out 0; have hcz14_1 := blk_cell BK354.out 1; have hfz14_0 := blk_frozen BK354.out 0; have hfz14_1 := blk_frozen BK354.out 1))
     go_ret
     exact ⟨er_, at_ HB.out⟩
    revert H; refine it_ (dt_ fun (c15b0 : decide (a0 ≤ ((rd_T82 l1 x23_2).f1)) = true) H => ?_) (df_ fun (c15b0 : decide (a0 ≤ ((rd_T82 l1 x23_2).f1)) = false) H => ?_)
    ·obtain rfl := Option.some.inj H
     have p353 : 0 ≤ (x23_2 : Int) := oa_
     have q353 : x23_2 < (l1.length : Int) := oa_
     obtain ⟨ad353, e353, hx353_0, hx353_1⟩ := at_T82 HR1.out x23_2 p353 q353
     cases e353
     replace hx353_0 := cel HB.out hx353_0
     replace hx353_1 := cel HB.out hx353_1
     replace p353 := eq_true p353
     replace q353 := eq_true q353
     go_wp2_with (first | ((with_reducible refine gate_dst (N := 7) rfl ?_); (try (refine gate_guard (by rfl) ?_; dsimp only)); refine bx_ 7 #[.int .i64 0, .int .i64 0] 82 ?_; intro gb354 hg w16 hbox hb; have BK354 := mk_ (hbox); have GW354 := gm_ hg HB.out; have GE354 := gm_ hg HB.out; replace HB := mk_ (below_step (below_at HB.out) hb); clear hb hbox hg; have hcz17_0 := blk_cell BK354.out 0; have hcz17_1 := blk_cell BK354.out 1; have hfz17_0 := blk_frozen BK354.out 0; have hfz17_1 := blk_frozen BK354.out 1))
     go_ret
     exact ⟨er_, at_ HB.out⟩
    have H' := mk_ H
    clear H
    have p353 : 0 ≤ (x23_2 : Int) := oa_
    have q353 : x23_2 < (l1.length : Int) := oa_
    obtain ⟨ad353, e353, hx353_0, hx353_1⟩ := at_T82 HR1.out x23_2 p353 q353
    cases e353
    replace hx353_0 := cel HB.out hx353_0
    replace hx353_1 := cel HB.out hx353_1
    replace p353 := eq_true p353
    replace q353 := eq_true q353
    go_wp2_with (first | ((with_reducible refine gate_dst (N := 7) rfl ?_); (try (refine gate_guard (by rfl) ?_; dsimp only)); refine bx_ 7 #[.int .i64 0, .int .i64 0] 82 ?_; intro gb354 hg w18 hbox hb; have BK354 := mk_ (hbox); have GW354 := gm_ hg HB.out; have GE354 := gm_ hg HB.out; replace HB := mk_ (below_step (below_at HB.out) hb); clear hb hbox hg; have hcz19_0 := blk_cell BK354.out 0; have hcz19_1 := blk_cell BK354.out 1; have hfz19_0 := blk_frozen BK354.out 0; have hfz19_1 := blk_frozen BK354.out 1))
    go_roundg k2
    case measure => have := HJ2.out; have := HK2.out; omega
    case rel => exact ⟨(wrap64 (x5_2 + 1)), (wrap64 (x23_2 + 1)), sm_, sm_, H', ⟨by have := HJ2.out; have := HK2.out; omega⟩, ⟨at_ HB.out⟩⟩
   revert H; refine it_ (qt_ fun c20b0 c20b1 H => ?_) (qfk_ fun c20 c20b0 c20b1 H => ?_)
   ·revert H; refine it_ (dt_ fun c21b0 H => ?_) (df_ fun c21b0 H => ?_)
    ·obtain rfl := Option.some.inj H
     have p353 : 0 ≤ (x23_2 : Int) := oa_
     have q353 : x23_2 < (l1.length : Int) := oa_
     obtain ⟨ad353, e353, hx353_0, hx353_1⟩ := at_T82 HR1.out x23_2 p353 q353
     cases e353
     replace hx353_0 := cel HB.out hx353_0
     replace hx353_1 := cel HB.out hx353_1
     replace p353 := eq_true p353
     replace q353 := eq_true q353
     go_wp2_with (first | ((with_reducible refine gate_dst (N := 7) rfl ?_); (try (refine gate_guard (by rfl) ?_; dsimp only)); refine bx_ 7 #[.int .i64 0, .int .i64 0] 82 ?_; intro gb354 hg w22 hbox hb; have BK354 := mk_ (hbox); have GW354 := gm_ hg HB.out; have GE354 := gm_ hg HB.out; replace HB := mk_ (below_step (below_at HB.out) hb); clear hb hbox hg; have hcz23_0 := blk_cell BK354.out 0; have hcz23_1 := blk_cell BK354.out 1; have hfz23_0 := blk_frozen BK354.out 0; have hfz23_1 := blk_frozen BK354.out 1))
     go_ret
     exact ⟨er_, at_ HB.out⟩
    revert H; refine it_ (dt_ fun (c24b0 : decide ((wrap64 (a0 + 1)) < ((rd_T82 l1 x23_2).f1)) = true) H => ?_) (df_ fun (c24b0 : decide ((wrap64 (a0 + 1)) < ((rd_T82 l1 x23_2).f1)) = false) H => ?_)
    ·obtain rfl := Option.some.inj H
     have p353 : 0 ≤ (x23_2 : Int) := oa_
     have q353 : x23_2 < (l1.length : Int) := oa_
     obtain ⟨ad353, e353, hx353_0, hx353_1⟩ := at_T82 HR1.out x23_2 p353 q353
     cases e353
     replace hx353_0 := cel HB.out hx353_0
     replace hx353_1 := cel HB.out hx353_1
     replace p353 := eq_true p353
     replace q353 := eq_true q353
     go_wp2_with (first | ((with_reducible refine gate_dst (N := 7) rfl ?_); (try (refine gate_guard (by rfl) ?_; dsimp only)); refine bx_ 7 #[.int .i64 0, .int .i64 0] 82 ?_; intro gb354 hg w25 hbox hb; have BK354 := mk_ (hbox); have GW354 := gm_ hg HB.out; have GE354 := gm_ hg HB.out; replace HB := mk_ (below_step (below_at HB.out) hb); clear hb hbox hg; have hcz26_0 := blk_cell BK354.out 0; have hcz26_1 := blk_cell BK354.out 1; have hfz26_0 := blk_frozen BK354.out 0; have hfz26_1 := blk_frozen BK354.out 1))
     go_ret
     exact ⟨er_, at_ HB.out⟩
    have H' := mk_ H
    clear H
    have p353 : 0 ≤ (x23_2 : Int) := oa_
    have q353 : x23_2 < (l1.length : Int) := oa_
    obtain ⟨ad353, e353, hx353_0, hx353_1⟩ := at_T82 HR1.out x23_2 p353 q353
    cases e353
    replace hx353_0 := cel HB.out hx353_0
    replace hx353_1 := cel HB.out hx353_1
    replace p353 := eq_true p353
    replace q353 := eq_true q353
    go_wp2_with (first | ((with_reducible refine gate_dst (N := 7) rfl ?_); (try (refine gate_guard (by rfl) ?_; dsimp only)); refine bx_ 7 #[.int .i64 0, .int .i64 0] 82 ?_; intro gb354 hg w27 hbox hb; have BK354 := mk_ (hbox); have GW354 := gm_ hg HB.out; have GE354 := gm_ hg HB.out; replace HB := mk_ (below_step (below_at HB.out) hb); clear hb hbox hg; have hcz28_0 := blk_cell BK354.out 0; have hcz28_1 := blk_cell BK354.out 1; have hfz28_0 := blk_frozen BK354.out 0; have hfz28_1 := blk_frozen BK354.out 1))
    go_roundg k2
    case measure => have := HJ2.out; have := HK2.out; omega
    case rel => exact ⟨(wrap64 (x5_2 + 1)), (wrap64 (x23_2 + 1)), sm_, sm_, H', ⟨by have := HJ2.out; have := HK2.out; omega⟩, ⟨at_ HB.out⟩⟩
   revert H; refine it_ (qt_ fun c29b0 c29b1 H => ?_) (qfk_ fun c29 c29b0 c29b1 H => ?_)
   ·revert H; refine ti_ (qfk_ fun c30 c30b0 c30b1 H => ?_) (qt_ fun c30b0 c30b1 H => ?_)
    ·obtain rfl := Option.some.inj H
     have p353 : 0 ≤ (x23_2 : Int) := oa_
     have q353 : x23_2 < (l1.length : Int) := oa_
     obtain ⟨ad353, e353, hx353_0, hx353_1⟩ := at_T82 HR1.out x23_2 p353 q353
     cases e353
     replace hx353_0 := cel HB.out hx353_0
     replace hx353_1 := cel HB.out hx353_1
     replace p353 := eq_true p353
     replace q353 := eq_true q353
     go_wp2_with (first | ((with_reducible refine gate_dst (N := 7) rfl ?_); (try (refine gate_guard (by rfl) ?_; dsimp only)); refine bx_ 7 #[.int .i64 0, .int .i64 0] 82 ?_; intro gb354 hg w36 hbox hb; have BK354 := mk_ (hbox); have GW354 := gm_ hg HB.out; have GE354 := gm_ hg HB.out; replace HB := mk_ (below_step (below_at HB.out) hb); clear hb hbox hg; have hcz37_0 := blk_cell BK354.out 0; have hcz37_1 := blk_cell BK354.out 1; have hfz37_0 := blk_frozen BK354.out 0; have hfz37_1 := blk_frozen BK354.out 1))
     go_ret
     exact ⟨er_, at_ HB.out⟩
    revert H; refine it_ (dt_ fun c31b0 H => ?_) (df_ fun c31b0 H => ?_)
    ·obtain rfl := Option.some.inj H
     have p353 : 0 ≤ (x23_2 : Int) := oa_
     have q353 : x23_2 < (l1.length : Int) := oa_
     obtain ⟨ad353, e353, hx353_0, hx353_1⟩ := at_T82 HR1.out x23_2 p353 q353
     cases e353
     replace hx353_0 := cel HB.out hx353_0
     replace hx353_1 := cel HB.out hx353_1
     replace p353 := eq_true p353
     replace q353 := eq_true q353
     go_wp2_with (first | ((with_reducible refine gate_dst (N := 7) rfl ?_); (try (refine gate_guard (by rfl) ?_; dsimp only)); refine bx_ 7 #[.int .i64 0, .int .i64 0] 82 ?_; intro gb354 hg w32 hbox hb; have BK354 := mk_ (hbox); have GW354 := gm_ hg HB.out; have GE354 := gm_ hg HB.out; replace HB := mk_ (below_step (below_at HB.out) hb); clear hb hbox hg; have hcz33_0 := blk_cell BK354.out 0; have hcz33_1 := blk_cell BK354.out 1; have hfz33_0 := blk_frozen BK354.out 0; have hfz33_1 := blk_frozen BK354.out 1))
     go_ret
     exact ⟨er_, at_ HB.out⟩
    have H' := mk_ H
    clear H
    have p353 : 0 ≤ (x23_2 : Int) := oa_
    have q353 : x23_2 < (l1.length : Int) := oa_
    obtain ⟨ad353, e353, hx353_0, hx353_1⟩ := at_T82 HR1.out x23_2 p353 q353
    cases e353
    replace hx353_0 := cel HB.out hx353_0
    replace hx353_1 := cel HB.out hx353_1
    replace p353 := eq_true p353
    replace q353 := eq_true q353
    go_wp2_with (first | ((with_reducible refine gate_dst (N := 7) rfl ?_); (try (refine gate_guard (by rfl) ?_; dsimp only)); refine bx_ 7 #[.int .i64 0, .int .i64 0] 82 ?_; intro gb354 hg w34 hbox hb; have BK354 := mk_ (hbox); have GW354 := gm_ hg HB.out; have GE354 := gm_ hg HB.out; replace HB := mk_ (below_step (below_at HB.out) hb); clear hb hbox hg; have hcz35_0 := blk_cell BK354.out 0; have hcz35_1 := blk_cell BK354.out 1; have hfz35_0 := blk_frozen BK354.out 0; have hfz35_1 := blk_frozen BK354.out 1))
    go_roundg k2
    case measure => have := HJ2.out; have := HK2.out; omega
    case rel => exact ⟨(x5_2), (wrap64 (x23_2 + 1)), sm_, sm_, H', ⟨by have := HJ2.out; have := HK2.out; omega⟩, ⟨at_ HB.out⟩⟩
   have HC38 := mk_ H
   clear H
   have p353 : 0 ≤ (x23_2 : Int) := oa_
   have q353 : x23_2 < (l1.length : Int) := oa_
   obtain ⟨ad353, e353, hx353_0, hx353_1⟩ := at_T82 HR1.out x23_2 p353 q353
   cases e353
   replace hx353_0 := cel HB.out hx353_0
   replace hx353_1 := cel HB.out hx353_1
   replace p353 := eq_true p353
   replace q353 := eq_true q353
   go_upto_if 65 with (first | ((with_reducible refine gate_dst (N := 7) rfl ?_); (try (refine gate_guard (by rfl) ?_; dsimp only)); refine bx_ 7 #[.int .i64 0, .int .i64 0] 82 ?_; intro gb354 hg w39 hbox hb; have BK354 := mk_ (hbox); have GW354 := gm_ hg HB.out; have GE354 := gm_ hg HB.out; replace HB := mk_ (below_step (below_at HB.out) hb); clear hb hbox hg; have hcz40_0 := blk_cell BK354.out 0; have hcz40_1 := blk_cell BK354.out 1; have hfz40_0 := blk_frozen BK354.out 0; have hfz40_1 := blk_frozen BK354.out 1))
   (try simp only [Act.put, z0_, z1_, z2_])
   go_cut [65] (fun v65 wc => ∃ (kq : Nat) (x65_37 : Bool), v65 = .bool x65_37 ∧ Aside0 (impl_TermOk.j2 kq a0 x5_2 l1 (l1.length : Int) x23_2 x65_37 ((rd_T82 l1 x23_2).f0) ((rd_T82 l1 x23_2).f1) = some r) ∧ Aside0 (kq ≤ k2) ∧ Aside0 (wc.heap[gb354]? = some (.cells #[.int .i64 ((rd_T82 l1 x23_2).f0), .int .i64 ((rd_T82 l1 x23_2).f1)] 82 (0, 0))) ∧ Aside0 (Below w.heap.size w wc))
   case first =>
    have H := HC38.out
    clear HC38
    revert H; refine it_ (qt_ fun c41b0 c41b1 H => ?_) (qfk_ fun c41 c41b0 c41b1 H => ?_)
    ·(first | rw [c41b0] | (simp only [i64_w, i32_w]; rw [c41b0]) | skip)
     have H' := mk_ H
     clear H
     go_wp2
     go_meet
     case rel => exact ⟨_, ((((rd_T82 l1 x23_2).f0) == 3)), sm_, H', ⟨by have := HJ2.out; have := HK2.out; first | omega | exact Nat.le_refl _⟩, ⟨by refine bs_ ?_; refine blk_put (cs := #[.int .i64 ((rd_T82 l1 x23_2).f0), .int .i64 0]) ?_ 1 _ rfl; refine bs_ ?_; refine blk_put (cs := #[.int .i64 0, .int .i64 0]) ?_ 0 _ rfl; refine bs_ ?_; exact BK354.out⟩, ⟨at_ HB.out⟩⟩
    (first | rw [c41b0] | (simp only [i64_w, i32_w]; rw [c41b0]) | skip)
    revert H; refine it_ (qt_ fun c42b0 c42b1 H => ?_) (qfk_ fun c42 c42b0 c42b1 H => ?_)
    ·have H' := mk_ H
     clear H
     go_wp2
     go_meet
     case rel => exact ⟨_, ((((rd_T82 l1 x23_2).f0) == 4)), sm_, H', ⟨by have := HJ2.out; have := HK2.out; first | omega | exact Nat.le_refl _⟩, ⟨by refine bs_ ?_; refine blk_put (cs := #[.int .i64 ((rd_T82 l1 x23_2).f0), .int .i64 0]) ?_ 1 _ rfl; refine bs_ ?_; refine blk_put (cs := #[.int .i64 0, .int .i64 0]) ?_ 0 _ rfl; refine bs_ ?_; exact BK354.out⟩, ⟨at_ HB.out⟩⟩
    have H' := mk_ H
    clear H
    go_wp2
    go_meet
    case rel => exact ⟨_, ((((rd_T82 l1 x23_2).f0) == 5)), sm_, H', ⟨by have := HJ2.out; have := HK2.out; first | omega | exact Nat.le_refl _⟩, ⟨by refine bs_ ?_; refine blk_put (cs := #[.int .i64 ((rd_T82 l1 x23_2).f0), .int .i64 0]) ?_ 1 _ rfl; refine bs_ ?_; refine blk_put (cs := #[.int .i64 0, .int .i64 0]) ?_ 0 _ rfl; refine bs_ ?_; exact BK354.out⟩, ⟨at_ HB.out⟩⟩
   clear HC38
   try clear c1
   try clear c2
   try clear p2
   try clear c3
   try clear p3
   try clear q3
   try clear hx3
   try clear c4
   try clear c5
   try clear c6
   try clear c6b0
   try clear c6b1
   try clear p6
   try clear c7
   try clear c8
   try clear c8b0
   try clear c9
   try clear c9b0
   try clear c10
   try clear c10b0
   try clear c11
   try clear c11b0
   try clear c11b1
   try clear c12
   try clear c12b0
   try clear c15
   try clear c15b0
   try clear c20
   try clear c20b0
   try clear c20b1
   try clear c21
   try clear c21b0
   try clear c24
   try clear c24b0
   try clear c29
   try clear c29b0
   try clear c29b1
   try clear c30
   try clear c30b0
   try clear c30b1
   try clear c31
   try clear c31b0
   try clear c35
   try clear p35
   try clear q35
   try clear hx35
   try clear c41
   try clear c41b0
   try clear c41b1
   try clear c42
   try clear c42b0
   try clear c42b1
   try clear hcz14_0
   try clear hcz14_1
   try clear hcz17_0
   try clear hcz17_1
   try clear hcz19_0
   try clear hcz19_1
   try clear hcz23_0
   try clear hcz23_1
   try clear hcz26_0
   try clear hcz26_1
   try clear hcz28_0
   try clear hcz28_1
   try clear hcz33_0
   try clear hcz33_1
   try clear hcz35_0
   try clear hcz35_1
   try clear hcz37_0
   try clear hcz37_1
   try clear hcz40_0
   try clear hcz40_1
   try clear hfz14_0
   try clear hfz14_1
   try clear hfz17_0
   try clear hfz17_1
   try clear hfz19_0
   try clear hfz19_1
   try clear hfz23_0
   try clear hfz23_1
   try clear hfz26_0
   try clear hfz26_1
   try clear hfz28_0
   try clear hfz28_1
   try clear hfz33_0
   try clear hfz33_1
   try clear hfz35_0
   try clear hfz35_1
   try clear hfz37_0
   try clear hfz37_1
   try clear hfz40_0
   try clear hfz40_1
   try clear hx353_0
   try clear hx353_1
   try clear p2
   try clear p353
   try clear q353
   obtain ⟨kq, x65_37, rfl, HA, HJ37, BK354, HB⟩ := hcut
   cases kq with
   | zero => exact absurd HA.out (by simp [impl_TermOk.j2])
   | succ kj37 =>
    have H := HA.out
    clear HA
    simp only [impl_TermOk.j2] at H
    revert H; refine bi_ ?_ ?_ <;> rintro rfl H
    ·obtain rfl := Option.some.inj H
     go_wp2
     go_ret
     exact ⟨er_, at_ HB.out⟩
    revert H; refine ti_ (qfk_ fun c44 c44b0 c44b1 H => ?_) (qt_ fun c44b0 c44b1 H => ?_)
    ·obtain rfl := Option.some.inj H
     have hcz48_0 : wc.cell? ⟨gb354, 0, none⟩ = some (.int .i64 ((rd_T82 l1 x23_2).f0)) := (blk_cell BK354.out 0).trans rfl
     have hcz48_1 : wc.cell? ⟨gb354, 1, none⟩ = some (.int .i64 ((rd_T82 l1 x23_2).f1)) := (blk_cell BK354.out 1).trans rfl
     have hfz48_0 := blk_frozen BK354.out 0
     have hfz48_1 := blk_frozen BK354.out 1
     go_wp2
     go_ret
     exact ⟨er_, at_ HB.out⟩
    revert H; refine it_ (dt_ fun c45b0 H => ?_) (df_ fun c45b0 H => ?_)
    ·obtain rfl := Option.some.inj H
     have hcz46_0 : wc.cell? ⟨gb354, 0, none⟩ = some (.int .i64 ((rd_T82 l1 x23_2).f0)) := (blk_cell BK354.out 0).trans rfl
     have hcz46_1 : wc.cell? ⟨gb354, 1, none⟩ = some (.int .i64 ((rd_T82 l1 x23_2).f1)) := (blk_cell BK354.out 1).trans rfl
     have hfz46_0 := blk_frozen BK354.out 0
     have hfz46_1 := blk_frozen BK354.out 1
     go_wp2
     go_ret
     exact ⟨er_, at_ HB.out⟩
    have H' := mk_ H
    clear H
    have hcz47_0 : wc.cell? ⟨gb354, 0, none⟩ = some (.int .i64 ((rd_T82 l1 x23_2).f0)) := (blk_cell BK354.out 0).trans rfl
    have hcz47_1 : wc.cell? ⟨gb354, 1, none⟩ = some (.int .i64 ((rd_T82 l1 x23_2).f1)) := (blk_cell BK354.out 1).trans rfl
    have hfz47_0 := blk_frozen BK354.out 0
    have hfz47_1 := blk_frozen BK354.out 1
    go_wp2
    go_roundg kj37
    case measure => have := HJ2.out; have := HK2.out; have := HJ37.out; omega
    case rel => exact ⟨(wrap64 (x5_2 - 1)), (wrap64 (x23_2 + 1)), sm_, sm_, H', ⟨by have := HJ2.out; have := HK2.out; have := HJ37.out; omega⟩, ⟨at_ HB.out⟩⟩
def impl_ClaimOk.f (k : Nat) (a0 : Int) (a1_0 : Int) (l1_1 : List (S82)) : Option (Bool) := (impl_peopleOk.f a0).bind fun t356 => (if t356 = true then (if a1_0 ≥ 0 then (if a1_0 < a0 then ((impl_TermOk.f k a0 l1_1).bind fun t357 => (if t357 = true then (some (decide ((l1_1.length : Int) ≤ 13))) else (some false))) else (some false)) else (some false)) else (some false))
set_option maxHeartbeats 8000000 in
set_option maxRecDepth 100000 in
theorem impl_ClaimOk.calls (k : Nat) (a0 : Int) (a1_0 : Int) (A1_1 : Option Addr) (c1_1 : Nat) (l1_1 : List (S82)) (r : Bool) (w : World) (hr1_1 : Kd.C k82 w A1_1 l1_1.length l1_1) (hc1_1 : l1_1.length ≤ c1_1) (h : impl_ClaimOk.f k a0 a1_0 l1_1 = some r) :
  Calls Tryd.prog 63 #[.int .i64 a0, .agg #[.int .i64 a1_0, .slice A1_1 l1_1.length c1_1]] w fun e w' => e = .returned (.bool r) ∧ Below w.heap.size w w' := by
 have hu79 := Tryd.underlying79
 have HR1_1 := mk_ hr1_1
 have HC1_1 := mk_ hc1_1
 clear hr1_1 hc1_1
 have HB := mk_ (Below.refl w.heap.size w)
 unfold impl_ClaimOk.f at h
 have H := h
 clear h
 revert H; refine bd_ fun t356 A3 H => ?_
 try dsimp only at H
 revert H; refine bi_ ?_ ?_ <;> rintro rfl H
 ·obtain rfl := Option.some.inj H
  go_enter Tryd.func63, Tryd.ntmps63
  go_wp2_with (first | ((with_reducible refine gate_dst (N := 3) rfl ?_); (try (refine gate_guard (by rfl) ?_; dsimp only)); refine bx_ 3 #[.int .i64 a1_0, .slice A1_1 l1_1.length c1_1] 79 ?_; intro gb355 hg w20 hbox hb; have GW355 := gm_ hg HB.out; have GE355 := gm_ hg HB.out; replace HB := mk_ (below_step (below_at HB.out) hb); clear hb hbox hg) | (refine gc_ 64 (some 6) Tryd.func64 #[.int .i64 a0] ?_; (with_reducible refine (impl_peopleOk.calls a0 false _ A3.out).mono ?_); rintro e w' ⟨rfl, ⟨nd, rfl⟩⟩; refine ⟨_, rfl, ?_⟩))
  go_ret
  exact ⟨er_, at_ HB.out⟩
 revert H; refine ti_ (df_e fun c5b0 H => ?_) (dt_e fun c5b0 H => ?_)
 ·obtain rfl := Option.some.inj H
  go_enter Tryd.func63, Tryd.ntmps63
  go_wp2_with (first | ((with_reducible refine gate_dst (N := 3) rfl ?_); (try (refine gate_guard (by rfl) ?_; dsimp only)); refine bx_ 3 #[.int .i64 a1_0, .slice A1_1 l1_1.length c1_1] 79 ?_; intro gb355 hg w18 hbox hb; have BK355 := mk_ (hbox); have GW355 := gm_ hg HB.out; have GE355 := gm_ hg HB.out; replace HB := mk_ (below_step (below_at HB.out) hb); clear hb hbox hg) | (refine gc_ 64 (some 6) Tryd.func64 #[.int .i64 a0] ?_; (with_reducible refine (impl_peopleOk.calls a0 true _ A3.out).mono ?_); rintro e w' ⟨rfl, ⟨nd, rfl⟩⟩; refine ⟨_, rfl, ?_⟩; have hcz19_0 := blk_cell BK355.out 0; have hcz19_1 := blk_cell BK355.out 1; have hfz19_0 := blk_frozen BK355.out 0; have hfz19_1 := blk_frozen BK355.out 1))
  go_ret
  exact ⟨er_, at_ HB.out⟩
 revert H; refine ti_ (df_ fun c6b0 H => ?_) (dt_ fun c6b0 H => ?_)
 ·obtain rfl := Option.some.inj H
  go_enter Tryd.func63, Tryd.ntmps63
  go_wp2_with (first | ((with_reducible refine gate_dst (N := 3) rfl ?_); (try (refine gate_guard (by rfl) ?_; dsimp only)); refine bx_ 3 #[.int .i64 a1_0, .slice A1_1 l1_1.length c1_1] 79 ?_; intro gb355 hg w16 hbox hb; have BK355 := mk_ (hbox); have GW355 := gm_ hg HB.out; have GE355 := gm_ hg HB.out; replace HB := mk_ (below_step (below_at HB.out) hb); clear hb hbox hg) | (refine gc_ 64 (some 6) Tryd.func64 #[.int .i64 a0] ?_; (with_reducible refine (impl_peopleOk.calls a0 true _ A3.out).mono ?_); rintro e w' ⟨rfl, ⟨nd, rfl⟩⟩; refine ⟨_, rfl, ?_⟩; have hcz17_0 := blk_cell BK355.out 0; have hcz17_1 := blk_cell BK355.out 1; have hfz17_0 := blk_frozen BK355.out 0; have hfz17_1 := blk_frozen BK355.out 1))
  go_ret
  exact ⟨er_, at_ HB.out⟩
 revert H; refine bd_ fun t357 A7 H => ?_
 try dsimp only at H
 revert H; refine ib_ ?_ ?_ <;> rintro rfl H
 ·obtain rfl := Option.some.inj H
  go_enter Tryd.func63, Tryd.ntmps63
  go_wp2_with (first | ((with_reducible refine gate_dst (N := 3) rfl ?_); (try (refine gate_guard (by rfl) ?_; dsimp only)); refine bx_ 3 #[.int .i64 a1_0, .slice A1_1 l1_1.length c1_1] 79 ?_; intro gb355 hg w9 hbox hb; have BK355 := mk_ (hbox); have GW355 := gm_ hg HB.out; have GE355 := gm_ hg HB.out; replace HB := mk_ (below_step (below_at HB.out) hb); clear hb hbox hg) | (refine gc_ 64 (some 6) Tryd.func64 #[.int .i64 a0] ?_; (with_reducible refine (impl_peopleOk.calls a0 true _ A3.out).mono ?_); rintro e w' ⟨rfl, ⟨nd, rfl⟩⟩; refine ⟨_, rfl, ?_⟩; have hcz10_0 := blk_cell BK355.out 0; have hcz10_1 := blk_cell BK355.out 1; have hfz10_0 := blk_frozen BK355.out 0; have hfz10_1 := blk_frozen BK355.out 1) | (go_at_call 35; (with_reducible refine (impl_TermOk.calls k a0 _ _ l1_1 true _ ?side1 ?side2 A7.out).mono ?_); (case side1 => repeat (first | exact (Kd.C_below HR1_1.out (at_ HB.out)) | (with_reducible refine Kd.C_alloc ?_ _) | (with_reducible refine Kd.C_drewN ?_ _) | (with_reducible refine Kd.C_drew ?_))); (case side2 => exact HC1_1.out); rintro e w11 ⟨rfl, hb⟩; replace BK355 := mk_ (blk_at BK355.out hb); replace HB := mk_ (below_step (at_ HB.out) hb); (try clear hb); have hcz12_0 := blk_cell BK355.out 0; have hcz12_1 := blk_cell BK355.out 1; have hfz12_0 := blk_frozen BK355.out 0; have hfz12_1 := blk_frozen BK355.out 1))
  go_ret
  exact ⟨er_, at_ HB.out⟩
 obtain rfl := Option.some.inj H
 go_enter Tryd.func63, Tryd.ntmps63
 go_wp2_with (first | ((with_reducible refine gate_dst (N := 3) rfl ?_); (try (refine gate_guard (by rfl) ?_; dsimp only)); refine bx_ 3 #[.int .i64 a1_0, .slice A1_1 l1_1.length c1_1] 79 ?_; intro gb355 hg w13 hbox hb; have BK355 := mk_ (hbox); have GW355 := gm_ hg HB.out; have GE355 := gm_ hg HB.out; replace HB := mk_ (below_step (below_at HB.out) hb); clear hb hbox hg) | (refine gc_ 64 (some 6) Tryd.func64 #[.int .i64 a0] ?_; (with_reducible refine (impl_peopleOk.calls a0 true _ A3.out).mono ?_); rintro e w' ⟨rfl, ⟨nd, rfl⟩⟩; refine ⟨_, rfl, ?_⟩; have hcz14_0 := blk_cell BK355.out 0; have hcz14_1 := blk_cell BK355.out 1; have hfz14_0 := blk_frozen BK355.out 0; have hfz14_1 := blk_frozen BK355.out 1) | (go_at_call 35; (with_reducible refine (impl_TermOk.calls k a0 _ _ l1_1 false _ ?side1 ?side2 A7.out).mono ?_); (case side1 => repeat (first | exact (Kd.C_below HR1_1.out (at_ HB.out)) | (with_reducible refine Kd.C_alloc ?_ _) | (with_reducible refine Kd.C_drewN ?_ _) | (with_reducible refine Kd.C_drew ?_))); (case side2 => exact HC1_1.out); rintro e w15 ⟨rfl, hb⟩; replace HB := mk_ (below_step (at_ HB.out) hb); (try clear BK355); (try clear hb)))
 go_ret
 exact ⟨er_, at_ HB.out⟩
end Go.Proofs.YtcaogllnbpmcgaaDoor.P

/- Go's functions come to just the answers of the Lean functions told here. -/
import Derived.Test.YtcaogllnbpmcgaaDoorPx28
set_option maxHeartbeats 8000000
set_option maxRecDepth 100000
namespace Go.Proofs.YtcaogllnbpmcgaaDoor.P
open Go.RowKit Go.Proofs.YtcaogllnbpmcgaaDoorW.PrintWords Go.Proofs.YtcaogllnbpmcgaaDoorW.PrintLast Go.Proofs.YtcaogllnbpmcgaaDoorW.PrintMore
attribute [local go_sem] max2_int min2_int max_two min_two max_three min_three max_four min_four
set_option linter.unusedVariables false
set_option linter.unusedSimpArgs false
mutual
def spec_l20Proof.j0 : Nat → Int → Int → List (S79) → List (S82) → List Int → Int → Int → List (S68) → Option (Int × (List (S79)) × (List (S82)) × Int × (List (S68)) × Int)
 | 0, _, _, _, _, _, _, _, _ => none
 | k + 1, x1, x8, x9, x10, x1000, x1001, x462000, x462001 => (spec_l20Rd_odd.f k x1000 x1001 x1).bind fun bt470 => (if bt470.1 = true then ((spec_l20Rd_pick.f k x1000 bt470.2 4).bind fun bt472 => (if bt472.1 = 0 then ((spec_l20Rd_pick.f k x1000 bt472.2 4).bind fun bt474 => (spec_l20Proof.j1 k x8 x9 x10 x1000 bt474.2 (wrap64 (bt474.1 - 3)) x462001)) else (if bt472.1 = 1 then ((spec_l20Rd_pick.f k x1000 bt472.2 4).bind fun bt476 => (if x462001.length < 5864062014805 then (spec_l20Proof.j1 k x8 x9 x10 x1000 bt476.2 x462000 (x462001 ++ [(⟨bt476.1, (-1), (-2)⟩ : S68)])) else (none))) else (if bt472.1 = 2 then (if (x462001.length : Int) > 0 then ((spec_l20Rd_pick.f k x1000 bt472.2 (x462001.length : Int)).bind fun bt481 => ((spec_l20Rd_pick.f k x1000 bt481.2 5).bind fun bt483 => (if 0 ≤ bt481.1 then (if bt481.1 < (x462001.length : Int) then (spec_l20Proof.j1 k x8 x9 x10 x1000 bt483.2 x462000 (x462001.set (bt481.1 : Int).toNat (⟨bt483.1, (rd_T68 x462001 bt481.1).f1, (rd_T68 x462001 bt481.1).f2⟩ : S68))) else (none)) else (none)))) else (spec_l20Proof.j1 k x8 x9 x10 x1000 bt472.2 x462000 x462001)) else (if (x462001.length : Int) > 0 then ((spec_l20Rd_pick.f k x1000 bt472.2 5).bind fun bt486 => (if 0 < (x462001.length : Int) then (spec_l20Proof.j1 k x8 x9 x10 x1000 bt486.2 x462000 (x462001.set (0 : Int).toNat (⟨(rd_T68 x462001 0).f0, wrap64 (bt486.1 - 3), (rd_T68 x462001 0).f2⟩ : S68))) else (none))) else (spec_l20Proof.j1 k x8 x9 x10 x1000 bt472.2 x462000 x462001)))))) else (spec_l20Proof.j1 k x8 x9 x10 x1000 bt470.2 x462000 x462001))
def spec_l20Proof.j1 : Nat → Int → List (S79) → List (S82) → List Int → Int → Int → List (S68) → Option (Int × (List (S79)) × (List (S82)) × Int × (List (S68)) × Int)
 | 0, _, _, _, _, _, _, _ => none
 | k + 1, x8, x9, x10, x1000, x1001, x462000, x462001 => some (x8, x9, x10, x462000, x462001, x1001)
end
def spec_l20Proof.f (k : Nat) (s0_0 : List Int) (s0_1 : Int) (a1 : Int) : Option (Int × (List (S79)) × (List (S82)) × Int × (List (S68)) × Int) := (spec_l20Proved.f k s0_0 s0_1).bind fun bt448 => ((spec_FindProof.f k bt448.1 bt448.2.1 bt448.2.2.1).bind fun bt456 => (if bt456.2.2 = true then (spec_l20Proof.j0 k a1 bt448.1 bt448.2.1 bt448.2.2.1 s0_0 bt448.2.2.2 bt456.1 bt456.2.1) else ((some (([(⟨1, 0⟩ : S82)] : List (S82)) : List (S82))).bind fun y462 => ((spec_FindProof.f k bt448.1 bt448.2.1 y462).bind fun bt465 => (spec_l20Proof.j0 k a1 bt448.1 bt448.2.1 y462 s0_0 bt448.2.2.2 bt465.1 bt465.2.1)))))
def spec_l20Proof.T9 : Bool × List (List Nat × List Nat) := (true, [([], []), ([0], [0]), ([], []), ([2], [2]), ([3], [3]), ([1, 0, 1, 2, 3, 4], [1]), ([5, 0, 1, 2, 3, 4], [5]), ([6, 4, 3, 0, 1, 2, 3, 4], [4, 6])])
def spec_l20Proof.B9 : List Nat := [0, 1, 0, 4, 12, 31, 63, 127]
theorem spec_l20Proof.tab9 : rtab .any (opsOf Tryd.f29 9) = spec_l20Proof.T9 := by kernel_rfl
theorem spec_l20Proof.bits9 : waitsOk spec_l20Proof.T9.2 spec_l20Proof.B9 = true := by kernel_rfl
def spec_l20Proof.T13 : Bool × List (List Nat × List Nat) := (true, [([], []), ([0], [0]), ([], []), ([2], [2]), ([3], [3]), ([4], [4]), ([1, 5, 3], [1, 5]), ([0, 1, 2, 3, 4, 5, 6], []), ([7, 6, 6, 0, 1, 2, 3, 4, 5, 6], [6, 7])])
def spec_l20Proof.B13 : List Nat := [0, 1, 0, 4, 12, 28, 63, 127, 255]
theorem spec_l20Proof.tab13 : rtab .any (opsOf Tryd.f29 13) = spec_l20Proof.T13 := by kernel_rfl
theorem spec_l20Proof.bits13 : waitsOk spec_l20Proof.T13.2 spec_l20Proof.B13 = true := by kernel_rfl
def spec_l20Proof.T16 : Bool × List (List Nat × List Nat) := (true, [([], []), ([0], [0]), ([], []), ([], []), ([3], [3]), ([4], [4]), ([2, 5], [2, 5]), ([], []), ([7, 6], [7]), ([1, 6, 0, 1, 2, 3, 4, 5, 6, 7, 8], [1, 6]), ([9, 0, 1, 2, 3, 4, 5, 6, 7, 8], [9]), ([10, 8, 8, 0, 1, 2, 3, 4, 5, 6, 7, 8], [8, 10])])
def spec_l20Proof.B16 : List Nat := [0, 1, 0, 0, 8, 24, 60, 0, 252, 511, 1023, 2047]
theorem spec_l20Proof.tab16 : rtab .any (opsOf Tryd.f29 16) = spec_l20Proof.T16 := by kernel_rfl
theorem spec_l20Proof.bits16 : waitsOk spec_l20Proof.T16.2 spec_l20Proof.B16 = true := by kernel_rfl
def spec_l20Proof.T17 : Bool × List (List Nat × List Nat) := (true, [([], []), ([], []), ([], []), ([], []), ([0, 0], [0]), ([1, 4, 0, 1, 4], [1]), ([2, 5, 0, 1, 2, 4, 5], [2]), ([3, 6, 0, 1, 2, 3, 4, 5, 6], [3])])
def spec_l20Proof.B17 : List Nat := [0, 0, 0, 0, 1, 19, 55, 127]
theorem spec_l20Proof.tab17 : rtab .any (opsOf Tryd.f29 17) = spec_l20Proof.T17 := by kernel_rfl
theorem spec_l20Proof.bits17 : waitsOk spec_l20Proof.T17.2 spec_l20Proof.B17 = true := by kernel_rfl
theorem spec_l20Proof.calls (k : Nat) (g : Nat) (s : List Int) (aC : Int) (a1 : Int) (r1 : Int) (r2 : List (S79)) (r3 : List (S82)) (r4 : Int) (r5 : List (S68)) (r6 : Int) (G w : World) (hI : IsS99 G w g s aC) (hB : Below G.heap.size G w) (h : spec_l20Proof.f k s aC a1 = some (r1, r2, r3, r4, r5, r6)) :
  Calls Tryd.prog 29 #[.pointer (some ⟨g, 0, none⟩), .int .i64 a1] w fun e w' => ∃ cM bU cN : Value, e = .returned (.tuple #[.int .i64 r1, cM, bU, .agg #[.int .i64 r4, cN]]) ∧ Kd.S k79 79 w' w.heap.size (fun k_ => some k_ ≠ (bU : Value).ownBlock) cM r2 ∧ Kd.R k82 82 w' w.heap.size (fun _ => True) bU r3 ∧ Kd.R k68 68 w' w.heap.size (fun _ => True) cN r5 ∧ IsS99 G w' g s r6 ∧ Below G.heap.size G w' ∧ KeepBut w w' g none := by
 have eI := Tryd.underlying27
 have eJ := Tryd.underlying82
 have eK := Tryd.underlying68
 have z := mk_ hI
 have HK := mk_ (KeepBut.refl w g none)
 have HL := mk_ hB.size
 clear hI
 have cO := mk_ hB.size
 have HB := mk_ hB
 clear hB
 unfold spec_l20Proof.f at h
 have H := h
 clear h
 replace H := bm_ H; obtain ⟨⟨af, W, aQ, Y⟩, A3, H⟩ := H
 try dsimp only at H
 replace H := bm_ H; obtain ⟨⟨ab, ac, cU⟩, A4, H⟩ := H
 try dsimp only at H
 have bV := mk_ H
 clear H
 go_enter Tryd.func29, Tryd.ntmps29
 go_upto_if 27 with (first | ((with_reducible refine gate_dst (N := 7) rfl ?_); refine gx_ 7 #[.int .i64 0, .slice none 0 0] 27 ?_; intro E hg w6 aD hb; replace HB := hs_ HB hb; have d := mk_ (aD); have d8 := mk_ ((by rw [hg]; exact (keep_size (w := w) (g := g) (row := none) (keep_at HK.out)) : w.heap.size ≤ E)); have a2 := mk_ ((Nat.le_trans cO.out (by rw [hg]; exact (keep_size (w := w) (g := g) (row := none) (keep_at HK.out)) : w.heap.size ≤ E) : G.heap.size ≤ E)); replace HK := kb_ HK hb; have dE := mk_ ((by rw [hg]; exact Nat.ne_of_lt (IsS99.lt (show IsS99 G _ g s aC from IsS99.below z.out lt_)) : g ≠ E)); have O := mk_ ((by rw [hg]; exact Nat.ne_of_gt (IsS99.lt (show IsS99 G _ g s aC from IsS99.below z.out lt_)) : E ≠ g)); replace z := mk_ (IsS99.below (IsS99.below z.out lt_) hb); clear hb aD hg) | ((with_reducible refine gate_callee (f := 53) rfl ?_); refine gc_ 53 (some 15) Tryd.func53 #[.pointer (some ⟨g, 0, none⟩)] ?_; (with_reducible refine (spec_l20Proved.calls k g s aC af W aQ Y G _ ?side1 ?side2 A3.out).mono ?_); (case side1 => exact is_); (case side2 => exact hv_); rintro e w7 ⟨eN, eO, rfl, ap, cP, hi, hb, hk⟩; refine ⟨_, rfl, ?_⟩; replace d := kl_ hk d O; have I := mk_ (Kd.S_lower ap (keep_size (w := w) (g := g) (row := none) ku_)); have P := mk_ (Kd.R_lower cP (keep_size (w := w) (g := g) (row := none) ku_)); replace HK := kd_ HK hk; replace HB := mk_ (hb); replace z := mk_ (hi); (try clear hb); (try clear ap); (try clear cP); obtain ⟨a3, a4, dP⟩ := Kd.S_slice I.out; subst dP; obtain ⟨dQ, dR, dS⟩ := Kd.R_slice P.out; subst dS) | ((with_reducible refine gate_callee (f := 54) rfl ?_); refine gc_ 54 (some 23) Tryd.func54 #[.int .i64 af, .slice a3 W.length a4, .slice dQ aQ.length dR] ?_; (with_reducible refine (spec_FindProof.calls k af _ _ W _ _ aQ ab ac cU _ ?side1 ?side2 ?side3 ?side4 A4.out).mono ?_); (case side1 => exact Kd.C_below (Kd.S_reads' I.out).2.2 lt_); (case side2 => exact (Kd.S_reads' I.out).2.1); (case side3 => exact Kd.C_below (Kd.R_reads' P.out).2.2 lt_); (case side4 => exact (Kd.R_reads' P.out).2.1); rintro e e6 ⟨eP, rfl, ap, hb⟩; refine ⟨_, rfl, ?_⟩; replace I := mk_ (Kd.S_below (Kd.S_below I.out lt_) hb); replace P := mk_ (Kd.R_below (Kd.R_below P.out lt_) hb); have X := mk_ (Kd.R_lower ap (keep_size (w := w) (g := g) (row := none) ku_)); replace d := mk_ (blk_below (g := E) (o := .cells #[.int .i64 0, .slice none 0 0] 27 (0, 0)) (bk_ d.out) hb); replace HK := kd_ HK (KeepBut.of_below hb g none); replace HB := mk_ (below_step hv_ hb); replace z := mk_ (IsS99.below is_ hb); (try clear hb); (try clear ap)) | ((with_reducible refine gate_dst (N := 11) rfl ?_); refine gx_ 11 #[.int .i64 0, .slice none 0 0] 27 ?_; intro q hg bW aD hb; replace I := mk_ (Kd.S_below (Kd.S_below I.out lt_) hb); replace P := mk_ (Kd.R_below (Kd.R_below P.out lt_) hb); replace X := mk_ (Kd.R_below (Kd.R_below X.out lt_) hb); replace HB := mk_ (below_step hv_ hb); have b := mk_ (aD); have d9 := mk_ ((by rw [hg]; exact (keep_size (w := w) (g := g) (row := none) ku_) : w.heap.size ≤ q)); have a5 := mk_ ((Nat.le_trans cO.out (by rw [hg]; exact (keep_size (w := w) (g := g) (row := none) ku_) : w.heap.size ≤ q) : G.heap.size ≤ q)); replace HK := kd_ HK (KeepBut.of_below hb g none); have r := nl_ hg d.out; have x := ng_ hg d.out; replace d := mk_ (blk_below (g := E) (o := .cells #[.int .i64 0, .slice none 0 0] 27 (0, 0)) (bk_ d.out) hb); have U := mk_ ((by rw [hg]; exact Nat.ne_of_lt (IsS99.lt (is_ : IsS99 G _ g s Y)) : g ≠ q)); have D := mk_ ((by rw [hg]; exact Nat.ne_of_gt (IsS99.lt (is_ : IsS99 G _ g s Y)) : q ≠ g)); replace z := mk_ (IsS99.below is_ hb); clear hb aD hg; have ea := x.out; have eb := r.out; have ec := D.out; have ed := U.out; have bu : bW.cell? ⟨q, 0, none⟩ = some (.int .i64 0) := (blk_cell b.out 0).trans rfl; have bv : bW.cell? ⟨q, 1, none⟩ = some (.slice none 0 0) := (blk_cell b.out 1).trans rfl; have bw := blk_frozen b.out 0; have bx := blk_frozen b.out 1; obtain ⟨ag, ah, cV⟩ := Kd.R_slice X.out; subst cV))
 (try simp only [Act.put, z0_, z1_, z2_])
 go_cut [10] (fun cQ wc => ∃ (kq : Nat) (al : List (S82)) (m : Int) (c : List (S68)) (u : Value), Aside0 (spec_l20Proof.j0 kq a1 af W al s Y m c = some (r1, r2, r3, r4, r5, r6)) ∧ Aside0 (kq ≤ k) ∧ Aside0 (Kd.S k79 79 wc w.heap.size (fun k_ => some k_ ≠ (cQ : Value).ownBlock) (.slice a3 W.length a4) W) ∧ Aside0 (Kd.R k82 82 wc w.heap.size (fun _ => True) cQ al) ∧ Aside0 (Kd.R k68 68 wc w.heap.size (fun _ => True) u c) ∧ Aside0 (wc.heap[E]? = some (.cells #[.int .i64 0, (.slice none 0 0)] 27 (0, 0))) ∧ Aside0 (wc.heap[q]? = some (.cells #[.int .i64 m, u] 27 (0, 0))) ∧ Aside0 (IsS99 G wc g s Y) ∧ Aside0 (KeepBut w wc g none) ∧ Aside0 (Below G.heap.size G wc))
 case first =>
  have H := bV.out
  clear bV
  revert H; refine ib_ ?_ ?_ <;> rintro rfl H
  ·have H' := mk_ H
   clear H
   go_wp2
   go_meet
   case rel => exact ⟨_, (aQ), (ab), (ac), (.slice ag ac.length ah), H', ⟨by first | omega | exact Nat.le_refl _⟩, ⟨by (with_reducible repeat (first | apply Kd.S_alloc | apply Kd.S_drewN | apply Kd.S_drew)); exact Kd.S_mono (Kd.S_far (Kd.S_far (Kd.S_types I.out b.out (by decide)) (fun _ hk => hk.2) _) (fun _ hk => hk.2) _) (fun _ hk => hk.1)⟩, ⟨by (with_reducible repeat (first | apply Kd.R_alloc | apply Kd.R_drewN | apply Kd.R_drew)); exact Kd.R_mono (Kd.R_far (Kd.R_far (Kd.R_types P.out b.out (by decide)) (fun _ hk => hk.2) _) (fun _ hk => hk.2) _) (fun _ hk => trivial)⟩, ⟨by (with_reducible repeat (first | apply Kd.R_alloc | apply Kd.R_drewN | apply Kd.R_drew)); exact Kd.R_mono (Kd.R_far (Kd.R_far (Kd.R_types X.out b.out (by decide)) (fun _ hk => hk.2) _) (fun _ hk => hk.2) _) (fun _ hk => trivial)⟩, ⟨by refine bs_ ?_; refine blk_far ?_ r.out _; refine bs_ ?_; refine blk_far ?_ r.out _; refine bs_ ?_; exact d.out⟩, ⟨by refine bs_ ?_; refine blk_put (cs := #[.int .i64 ab, .slice none 0 0]) ?_ 1 _ rfl; refine bs_ ?_; refine blk_put (cs := #[.int .i64 0, .slice none 0 0]) ?_ 0 _ rfl; refine bs_ ?_; exact b.out⟩, ⟨is_⟩, ⟨ku_⟩, ⟨hv_⟩⟩
  obtain ⟨aV, au⟩ : ∃ y_ : List (S82), y_ = (([(⟨1, 0⟩ : S82)] : List (S82))) := ⟨_, rfl⟩
  first | (replace H := bn_ au H; try dsimp only at H) | rw [← au] at H
  have a6 := mk_ au
  clear au
  replace H := bm_ H; obtain ⟨⟨aW, aX, cW⟩, dT, H⟩ := H
  try dsimp only at H
  have H' := mk_ H
  clear H
  go_wp2_with (first | ((with_reducible refine gate_dst (N := 29) rfl ?_); refine Kd.R_lit k82 _ 82 ?hg (N := 29) ?hd (xs := ([(⟨1, 0⟩ : S82)] : List (S82))) (inner := [.int .i64 1, .int .i64 0]) (ok := fun _ => True) (okp := fun _ => True) ?hr ?hp (fun _ hk => hk) trivial (Below.refl _ _) (Nat.le_refl _) (by simp) ?_; (case hd => rfl); (case hg => rfl); (case hr => first | (go_simp; done) | (go_simp; rfl)); (case hp => exact (Reps.c2 (show Kd.M k82 _ _ _ (⟨1, 0⟩ : S82) [.int .i64 1, .int .i64 0] from (k82_mkM _ _ _ (⟨1, 0⟩ : S82) )) (Reps.none _ _))); intro eQ e7 an hb dU cy; clear dU cy; (first | rw [← a6.out] at an | (simp only [Int.reduceToNat] at an; rw [← a6.out] at an)); replace I := mk_ (Kd.S_elder' (by (with_reducible repeat (first | apply Kd.S_alloc | apply Kd.S_drewN | apply Kd.S_drew)); exact (Kd.S_mono (Kd.S_far (Kd.S_far (Kd.S_types I.out b.out (by decide)) (fun _ hk => hk.2) _) (fun _ hk => hk.2) _) (fun _ h_ => h_.1))) (Kd.R_base an) hb); replace X := mk_ (Kd.R_below (by (with_reducible repeat (first | apply Kd.R_alloc | apply Kd.R_drewN | apply Kd.R_drew)); exact (Kd.R_mono (Kd.R_far (Kd.R_far (Kd.R_types X.out b.out (by decide)) (fun _ hk => hk.2) _) (fun _ hk => hk.2) _) (fun _ h_ => h_.1))) hb); have ae := mk_ (Kd.R_lower (Kd.R_new' an (Kd.R_lt (by (with_reducible repeat (first | apply Kd.R_alloc | apply Kd.R_drewN | apply Kd.R_drew)); exact (Kd.R_mono (Kd.R_far (Kd.R_far (Kd.R_types P.out b.out (by decide)) (fun _ hk => hk.2) _) (fun _ hk => hk.2) _) (fun _ h_ => h_.1))))) (keep_size (w := w) (g := g) (row := none) ku_)); replace d := mk_ (blk_below (g := E) (o := .cells #[.int .i64 0, .slice none 0 0] 27 (0, 0)) (by refine bs_ ?_; refine blk_far ?_ r.out _; refine bs_ ?_; refine blk_far ?_ r.out _; refine bs_ ?_; exact d.out) hb); replace b := mk_ (blk_below (g := q) (o := .cells #[.int .i64 ab, .slice ag ac.length ah] 27 (0, 0)) (by refine bs_ ?_; refine blk_put (cs := #[.int .i64 ab, .slice none 0 0]) ?_ 1 _ rfl; refine bs_ ?_; refine blk_put (cs := #[.int .i64 0, .slice none 0 0]) ?_ 0 _ rfl; refine bs_ ?_; exact b.out) hb); replace HK := kd_ HK (KeepBut.of_below hb g none); replace HB := mk_ (below_step hv_ hb); replace z := mk_ (IsS99.below (show IsS99 G ((bW.setCell ⟨q, 0, none⟩ (.int .i64 ab)).setCell ⟨q, 1, none⟩ (.slice ag ac.length ah)) g s Y from is_) hb); (try clear P); clear hb an; obtain ⟨cX, cY, cZ⟩ := Kd.R_slice ae.out; subst cZ) | ((with_reducible refine gate_callee (f := 54) rfl ?_); refine gc_ 54 (some 34) Tryd.func54 #[.int .i64 af, .slice a3 W.length a4, .slice cX aV.length cY] ?_; (with_reducible refine (spec_FindProof.calls k af _ _ W _ _ aV aW aX cW _ ?side1 ?side2 ?side3 ?side4 dT.out).mono ?_); (case side1 => exact Kd.C_below (Kd.S_reads' I.out).2.2 lt_); (case side2 => exact (Kd.S_reads' I.out).2.1); (case side3 => exact Kd.C_below (Kd.R_reads' ae.out).2.2 lt_); (case side4 => exact (Kd.R_reads' ae.out).2.1); rintro e cR ⟨eR, rfl, ap, hb⟩; refine ⟨_, rfl, ?_⟩; replace I := mk_ (Kd.S_below (Kd.S_below I.out lt_) hb); replace ae := mk_ (Kd.R_below (Kd.R_below ae.out lt_) hb); have a7 := mk_ (Kd.R_lower (Kd.R_new' ap (Kd.R_lt (Kd.R_below X.out lt_))) (keep_size (w := w) (g := g) (row := none) ku_)); replace d := mk_ (blk_below (g := E) (o := .cells #[.int .i64 0, .slice none 0 0] 27 (0, 0)) (bk_ d.out) hb); replace b := mk_ (blk_below (g := q) (o := .cells #[.int .i64 ab, .slice ag ac.length ah] 27 (0, 0)) (bk_ b.out) hb); replace HK := kd_ HK (KeepBut.of_below hb g none); replace HB := mk_ (below_step hv_ hb); replace z := mk_ (IsS99.below is_ hb); (try clear P X); (try clear hb); (try clear ap); have ee := x.out; have ef := r.out; have eg := D.out; have eh := U.out; have bz : cR.cell? ⟨q, 0, none⟩ = some (.int .i64 ab) := (blk_cell b.out 0).trans rfl; have bA : cR.cell? ⟨q, 1, none⟩ = some (.slice ag ac.length ah) := (blk_cell b.out 1).trans rfl; have bB := blk_frozen b.out 0; have bC := blk_frozen b.out 1; obtain ⟨c0, c1, da⟩ := Kd.R_slice a7.out; subst da))
  go_meet
  case rel => exact ⟨_, (aV), (aW), (aX), (.slice c0 aX.length c1), H', ⟨by first | omega | exact Nat.le_refl _⟩, ⟨by (with_reducible repeat (first | apply Kd.S_alloc | apply Kd.S_drewN | apply Kd.S_drew)); exact Kd.S_mono (Kd.S_far (Kd.S_far (Kd.S_types I.out b.out (by decide)) (fun _ hk => hk.2) _) (fun _ hk => hk.2) _) (fun _ hk => hk.1.2)⟩, ⟨by (with_reducible repeat (first | apply Kd.R_alloc | apply Kd.R_drewN | apply Kd.R_drew)); exact Kd.R_mono (Kd.R_far (Kd.R_far (Kd.R_types ae.out b.out (by decide)) (fun _ hk => hk.2) _) (fun _ hk => hk.2) _) (fun _ hk => trivial)⟩, ⟨by (with_reducible repeat (first | apply Kd.R_alloc | apply Kd.R_drewN | apply Kd.R_drew)); exact Kd.R_mono (Kd.R_far (Kd.R_far (Kd.R_types a7.out b.out (by decide)) (fun _ hk => hk.2) _) (fun _ hk => hk.2) _) (fun _ hk => trivial)⟩, ⟨by refine bs_ ?_; refine blk_far ?_ r.out _; refine bs_ ?_; refine blk_far ?_ r.out _; refine bs_ ?_; exact d.out⟩, ⟨by refine bs_ ?_; refine blk_put (cs := #[.int .i64 aW, .slice ag ac.length ah]) ?_ 1 _ rfl; refine bs_ ?_; refine blk_put (cs := #[.int .i64 ab, .slice ag ac.length ah]) ?_ 0 _ rfl; refine bs_ ?_; exact b.out⟩, ⟨is_⟩, ⟨ku_⟩, ⟨hv_⟩⟩
 clear bV
 try clear bu
 try clear bv
 try clear bz
 try clear bA
 try clear bw
 try clear bx
 try clear bB
 try clear bC
 obtain ⟨kq, al, m, c, u, HA, aE, t, l, a, d, b, z, HK, HB⟩ := hcut
 cases kq with
 | zero => exact absurd HA.out (by simp [spec_l20Proof.j0])
 | succ aq =>
  have H := HA.out
  clear HA
  simp only [spec_l20Proof.j0] at H
  replace H := bm_ H; obtain ⟨⟨db, ao⟩, dV, H⟩ := H
  try dsimp only at H
  have aY := mk_ H
  clear H
  go_upto_if 39 with (first | ((with_reducible refine gate_callee (f := 55) rfl ?_); refine gc_ 55 (some 39) Tryd.func55 #[.pointer (some ⟨g, 0, none⟩), .int .i64 a1] ?_; (with_reducible refine mo_ (spec_l20Rd_odd.calls aq g s Y a1 db ao G _ ?side1 ?side2 dV.out) ?_); (case side1 => exact is_); (case side2 => exact hv_); rintro e8 ⟨hi, hb, hk⟩; replace t := mk_ (Kd.S_mono (Kd.S_keep (IsS99.apartS (is_ : IsS99 G _ g s Y) (Kd.S_below t.out lt_) (by decide)) hk (fun _ h => h.2)) (fun _ h => h.1)); replace l := mk_ (Kd.R_mono (Kd.R_keep (IsS99.apart (is_ : IsS99 G _ g s Y) (Kd.R_below l.out lt_) (by decide)) hk (fun _ h => h.2)) (fun _ h => h.1)); replace a := mk_ (Kd.R_mono (Kd.R_keep (IsS99.apart (is_ : IsS99 G _ g s Y) (Kd.R_below a.out lt_) (by decide)) hk (fun _ h => h.2)) (fun _ h => h.1)); replace d := kl_ hk d O; replace b := kl_ hk b D; replace HK := kd_ HK hk; replace HB := mk_ (hb); replace z := mk_ (hi); (try clear hb)))
  (try simp only [Act.put, z0_, z1_, z2_])
  go_cut [] (fun wc => ∃ (kq : Nat) (ai : Int) (L : Int) (T : List (S68)) (u : Value), Aside0 (spec_l20Proof.j1 kq af W al s ai L T = some (r1, r2, r3, r4, r5, r6)) ∧ Aside0 (kq ≤ aq) ∧ Aside0 (Kd.S k79 79 wc w.heap.size (fun k_ => some k_ ≠ (u10 : Value).ownBlock) (.slice a3 W.length a4) W) ∧ Aside0 (Kd.R k82 82 wc w.heap.size (fun _ => True) u10 al) ∧ Aside0 (Kd.R k68 68 wc w.heap.size (fun _ => True) u T) ∧ Aside0 (wc.heap[E]? = some (.cells #[.int .i64 0, (.slice none 0 0)] 27 (0, 0))) ∧ Aside0 (wc.heap[q]? = some (.cells #[.int .i64 L, u] 27 (0, 0))) ∧ Aside0 (IsS99 G wc g s ai) ∧ Aside0 (KeepBut w wc g none) ∧ Aside0 (Below G.heap.size G wc))
  case first =>
   have H := aY.out
   clear aY
   revert H; refine bi_ ?_ ?_ <;> rintro rfl H
   ·have H' := mk_ H
    clear H
    go_wp2
    go_meet
    case rel => exact ⟨_, (ao), (m), (c), (u), H', ⟨by have := aE.out; first | omega | exact Nat.le_refl _⟩, ⟨Kd.S_below t.out lt_⟩, ⟨Kd.R_below l.out lt_⟩, ⟨Kd.R_below a.out lt_⟩, ⟨by refine bs_ ?_; exact d.out⟩, ⟨by refine bs_ ?_; exact b.out⟩, ⟨is_⟩, ⟨ku_⟩, ⟨hv_⟩⟩
   replace H := bm_ H; obtain ⟨⟨dc, J⟩, dW, H⟩ := H
   try dsimp only at H
   go_upto_region 10 with (first | ((with_reducible refine gate_callee (f := 52) rfl ?_); refine gc_ 52 (some 41) Tryd.func52 #[.pointer (some ⟨g, 0, none⟩), .int .i64 4] ?_; (with_reducible refine mo_ (spec_l20Rd_pick.calls aq g s ao 4 dc J G _ ?side1 ?side2 dW.out) ?_); (case side1 => exact is_); (case side2 => exact hv_); rintro ad ⟨hi, hb, hk⟩; replace t := mk_ (Kd.S_mono (Kd.S_keep (IsS99.apartS (is_ : IsS99 G _ g s ao) (Kd.S_below t.out lt_) (by decide)) hk (fun _ h => h.2)) (fun _ h => h.1)); replace l := mk_ (Kd.R_mono (Kd.R_keep (IsS99.apart (is_ : IsS99 G _ g s ao) (Kd.R_below l.out lt_) (by decide)) hk (fun _ h => h.2)) (fun _ h => h.1)); replace a := mk_ (Kd.R_mono (Kd.R_keep (IsS99.apart (is_ : IsS99 G _ g s ao) (Kd.R_below a.out lt_) (by decide)) hk (fun _ h => h.2)) (fun _ h => h.1)); replace d := kl_ hk d O; replace b := kl_ hk b D; replace HK := kd_ HK hk; replace HB := mk_ (hb); replace z := mk_ (hi); (try clear hb)))
   revert H; refine it_ (qt_ fun am cz H => ?_) (qfk_ fun e9 am cz H => ?_)
   ·(first | rw [am] | (simp only [i64_w, i32_w]; rw [am]) | skip)
    replace H := bm_ H; obtain ⟨⟨bX, bY⟩, dX, H⟩ := H
    try dsimp only at H
    have H' := mk_ H
    clear H
    go_wp2_with (first | ((with_reducible refine gate_callee (f := 52) rfl ?_); refine gc_ 52 (some 56) Tryd.func52 #[.pointer (some ⟨g, 0, none⟩), .int .i64 4] ?_; (with_reducible refine mo_ (spec_l20Rd_pick.calls aq g s J 4 bX bY G _ ?side1 ?side2 dX.out) ?_); (case side1 => exact is_); (case side2 => exact hv_); rintro cS ⟨hi, hb, hk⟩; replace t := mk_ (Kd.S_mono (Kd.S_keep (IsS99.apartS (is_ : IsS99 G _ g s J) (Kd.S_below t.out lt_) (by decide)) hk (fun _ h => h.2)) (fun _ h => h.1)); replace l := mk_ (Kd.R_mono (Kd.R_keep (IsS99.apart (is_ : IsS99 G _ g s J) (Kd.R_below l.out lt_) (by decide)) hk (fun _ h => h.2)) (fun _ h => h.1)); replace a := mk_ (Kd.R_mono (Kd.R_keep (IsS99.apart (is_ : IsS99 G _ g s J) (Kd.R_below a.out lt_) (by decide)) hk (fun _ h => h.2)) (fun _ h => h.1)); replace d := kl_ hk d O; replace b := kl_ hk b D; replace HK := kd_ HK hk; replace HB := mk_ (hb); replace z := mk_ (hi); (try clear hb); have ei := x.out; have ej := r.out; have ek := D.out; have el := U.out; have dF : cS.cell? ⟨q, 0, none⟩ = some (.int .i64 m) := (blk_cell b.out 0).trans rfl; have dG : cS.cell? ⟨q, 1, none⟩ = some (u) := (blk_cell b.out 1).trans rfl; have dH := blk_frozen b.out 0; have dI := blk_frozen b.out 1))
    go_meet
    case rel => exact ⟨_, (bY), (wrap64 (bX - 3)), (c), (u), H', ⟨by have := aE.out; first | omega | exact Nat.le_refl _⟩, ⟨by (with_reducible repeat (first | apply Kd.S_alloc | apply Kd.S_drewN | apply Kd.S_drew)); exact Kd.S_mono (Kd.S_far (Kd.S_types t.out b.out (by decide)) (fun _ hk => hk.2) _) (fun _ hk => hk.1)⟩, ⟨by (with_reducible repeat (first | apply Kd.R_alloc | apply Kd.R_drewN | apply Kd.R_drew)); exact Kd.R_mono (Kd.R_far (Kd.R_types l.out b.out (by decide)) (fun _ hk => hk.2) _) (fun _ hk => trivial)⟩, ⟨by (with_reducible repeat (first | apply Kd.R_alloc | apply Kd.R_drewN | apply Kd.R_drew)); exact Kd.R_mono (Kd.R_far (Kd.R_types a.out b.out (by decide)) (fun _ hk => hk.2) _) (fun _ hk => trivial)⟩, ⟨by refine bs_ ?_; refine blk_far ?_ r.out _; refine bs_ ?_; exact d.out⟩, ⟨by refine bs_ ?_; refine blk_put (cs := #[.int .i64 m, u]) ?_ 0 _ rfl; refine bs_ ?_; exact b.out⟩, ⟨is_⟩, ⟨ku_⟩, ⟨hv_⟩⟩
   (first | rw [am] | (simp only [i64_w, i32_w]; rw [am]) | skip)
   revert H; refine it_ (qt_ fun a8 a9 H => ?_) (qfk_ fun dY a8 a9 H => ?_)
   ·replace H := bm_ H; obtain ⟨⟨aG, bZ⟩, dZ, H⟩ := H
    try dsimp only at H
    revert H; refine g_ (mt_ fun cA H => ?_)
    obtain ⟨b0, av⟩ : ∃ y_ : List (S68), y_ = (c ++ [(⟨aG, (-1), (-2)⟩ : S68)]) := ⟨_, rfl⟩
    first | (replace H := bn_ av H; try dsimp only at H) | rw [← av] at H
    have cB := mk_ av
    clear av
    have H' := mk_ H
    clear H
    try go_wp2
    replace t := mk_ (Kd.S_drew t.out)
    replace l := mk_ (Kd.R_drew l.out)
    replace a := mk_ (Kd.R_drew a.out)
    replace d := mk_ (blk_drew d.out)
    replace b := mk_ (blk_drew b.out)
    replace z := mk_ (IsS99.drew z.out)
    replace HK := mk_ (keep_drew HK.out)
    replace HB := mk_ (below_drew1 HB.out)
    refine start_ (n := 9) (S := fun w' => w'.cell? ⟨q, 0, none⟩ = some (.int .i64 m) ∧ w'.cell? ⟨q, 1, none⟩ = some (u)) (ds := [8]) #[false, false, false, false, false, false, false, false, false] (by kernel_rfl) rfl rfl ⟨(blk_cell b.out 0).trans rfl, (blk_cell b.out 1).trans rfl⟩ (fun A => ?_); refine with_tabW spec_l20Proof.tab13 spec_l20Proof.bits13 (fun y ar => ?_)
    generalize ad.drew = fa at t l a d b z HK HB A ⊢
    refine pus_ 0 (some 61) (ao_ y) ?_
    refine pus_ 2 (some 63) (ao_ y) ?_
    refine tas_ 1 (some 62) (to_ y ar) A ?_
    refine ons_ 3 (some 64) (oo_ y) (fun K hK => ?_)
    refine goes_ Tryd.func52 (by kernel_rfl) rfl #[.pointer (some ⟨g, 0, none⟩), .int .i64 4] (by rfl) rfl rfl gl_ ?_
    with_reducible refine (spec_l20Rd_pick.calls aq g s J 4 aG bZ G _ ?side1 ?side2 dZ.out).mono ?_
    (case side1 => exact is_)
    (case side2 => exact hv_)
    rintro e fb ⟨rfl, hi, hb, hk⟩
    refine ⟨_, rfl, ?_⟩
    replace t := mk_ (Kd.S_mono (Kd.S_keep (IsS99.apartS (is_ : IsS99 G _ g s J) (Kd.S_below t.out lt_) (by decide)) hk (fun _ h => h.2)) (fun _ h => h.1))
    replace l := mk_ (Kd.R_mono (Kd.R_keep (IsS99.apart (is_ : IsS99 G _ g s J) (Kd.R_below l.out lt_) (by decide)) hk (fun _ h => h.2)) (fun _ h => h.1))
    replace a := mk_ (Kd.R_mono (Kd.R_keep (IsS99.apart (is_ : IsS99 G _ g s J) (Kd.R_below a.out lt_) (by decide)) hk (fun _ h => h.2)) (fun _ h => h.1))
    replace d := kl_ hk d O
    replace b := kl_ hk b D
    replace HK := kd_ HK hk
    replace HB := mk_ (hb)
    replace z := mk_ (hi)
    (try clear hb)
    (try clear hb2)
    (try clear hk)
    (try clear hi)
    refine hK.out _ _ ⟨(blk_cell b.out 0).trans rfl, (blk_cell b.out 1).trans rfl⟩ (fun A => ?_)
    clear hK K
    refine nor_ (some 64) ?_
    refine pus_ 4 (some 65) (ao_ y) ?_
    refine ons_ 5 (some 66) (oo_ y) (fun K hK => ?_)
    refine value_ (w1 := ?_) (v := ?_) (by rfl) rfl ?_ ?_
    rotate_left 2
    ·go_simp
     constructor
     ·rfl
     rfl
    refine hK.out _ _ ⟨(blk_cell (blk_alloc b.out _) 0).trans rfl, (blk_cell (blk_alloc b.out _) 1).trans rfl⟩ (fun A => ?_)
    clear hK K
    refine nor_ (some 66) ?_
    refine ons_ 6 (some 67) (oo_ y) (fun K hK => ?_)
    refine Kd.R_append_step k68 w.heap.size (by rfl) (.tmp 62) (.tmp 66) 25 68 (.agg #[(.int .i64 0), (.int .i64 0), (.int .i64 0)]) 24 rfl Tryd.underlying25 info68 rfl (by decide) (by omega) u c (⟨aG, (-1), (-2)⟩ : S68) [.int .i64 aG, .int .i64 (-1), .int .i64 (-2)] (fun _ => True) (fun _ => False) rfl rfl ?aP (fun _ hk => hk.elim) ?aF ?aO (Below.refl _ _) ?aS ?aL ?_
    (case aP => exact k68_mkM _ _ _ (⟨aG, (-1), (-2)⟩ : S68))
    (case aF => exact (fun _ _ => trivial))
    (case aO => exact (Kd.R_below a.out lt_))
    (case aS => exact (keep_size (w := w) (g := g) (row := none) ku_))
    (case aL => have := cA.out; omega)
    intro eS d0 ho hb hg hat
    rw [← cB.out] at ho
    replace t := mk_ (Kd.S_over' (Kd.S_below t.out lt_) (Kd.R_typed (Kd.R_below a.out lt_)) (by decide) hg)
    replace l := mk_ (Kd.R_over' (Kd.R_below l.out lt_) (Kd.R_typed (Kd.R_below a.out lt_)) (by decide) hg)
    replace d := mk_ (blk_grown (g := E) (o := .cells #[.int .i64 0, .slice none 0 0] 27 (0, 0)) (bk_ d.out) hg (Kd.R_ne a.out d.out (by decide)))
    replace b := mk_ (blk_grown (g := q) (o := .cells #[.int .i64 m, u] 27 (0, 0)) (bk_ b.out) hg (Kd.R_ne a.out b.out (by decide)))
    replace HB := mk_ (below_weaken hv_ HL.out hb)
    replace z := mk_ (IsS99.grown is_ hg (IsS99.own_ne z.out a.out (by decide)))
    replace HK := mk_ (KeepBut.trans ku_ (KeepBut.of_grown hg g) (Kd.R_base2 a.out))
    have ba := mk_ (ho)
    (try clear a)
    clear ho hb hg hat
    obtain ⟨dd, de, b1⟩ := Kd.R_slice ba.out
    (first | subst b1 | (injection b1 with f1_ f2_ f3_; have b2 := f1_.symm; have b3 := f3_.symm; clear f1_ f2_ f3_; subst b2; subst b3))
    refine hK.out _ _ ⟨(blk_cell b.out 0).trans rfl, (blk_cell b.out 1).trans rfl⟩ (fun A => ?_)
    clear hK K
    refine nor_ (some 67) ?_
    refine pus_ 7 (some 68) (ao_ y) ?_
    refine last_ (i := 8) (N := none) #[true, true, true, true, true, true, true, true, true] rfl rfl (one_of y.out (by kernel_rfl)) (by decide) (fun K hK => ?_)
    have eT : d0.cell? ⟨q, 1, none⟩ = some (u) := (blk_cell b.out 1).trans rfl
    have em := blk_frozen b.out 1
    have dJ := r.out
    have dK := x.out
    refine skip_ (w1 := ?_) (by rfl) rfl ?_ ?_
    rotate_left
    ·go_simp
     rfl
    refine hK.out _ _ ?_
    clear hK K
    refine done_ (done_of y.out (by kernel_rfl)) ?_
    try go_wp2
    go_meet
    case rel => exact ⟨_, (bZ), (m), (b0), (.slice dd b0.length de), H', ⟨by have := aE.out; first | omega | exact Nat.le_refl _⟩, ⟨by (with_reducible repeat (first | apply Kd.S_alloc | apply Kd.S_drewN | apply Kd.S_drew)); exact Kd.S_mono (Kd.S_far (Kd.S_types t.out b.out (by decide)) (fun _ hk => hk.2) _) (fun _ hk => hk.1)⟩, ⟨by (with_reducible repeat (first | apply Kd.R_alloc | apply Kd.R_drewN | apply Kd.R_drew)); exact Kd.R_mono (Kd.R_far (Kd.R_types l.out b.out (by decide)) (fun _ hk => hk.2) _) (fun _ hk => trivial)⟩, ⟨by (with_reducible repeat (first | apply Kd.R_alloc | apply Kd.R_drewN | apply Kd.R_drew)); exact Kd.R_mono (Kd.R_far (Kd.R_types ba.out b.out (by decide)) (fun _ hk => hk.2) _) (fun _ hk => trivial)⟩, ⟨by refine bs_ ?_; refine blk_far ?_ r.out _; refine bs_ ?_; exact d.out⟩, ⟨by refine bs_ ?_; refine blk_put (cs := #[.int .i64 m, u]) ?_ 1 _ rfl; refine bs_ ?_; exact b.out⟩, ⟨is_⟩, ⟨ku_⟩, ⟨hv_⟩⟩
   revert H; refine ti_ (qfk_ fun d1 bb bc H => ?_) (qt_ fun bb bc H => ?_)
   ·revert H; refine ti_ (fun aM H => ?_) fun aM H => ?_
    ·have be : decide (0 < (c.length : Int)) = false := decide_eq_false aM
     have bf : decide (0 < c.length) = false := decide_eq_false (by omega)
     clear aM
     have H' := mk_ H
     clear H
     have en := x.out
     have eo := r.out
     have ep := D.out
     have er := U.out
     have bD : ad.cell? ⟨q, 0, none⟩ = some (.int .i64 m) := (blk_cell b.out 0).trans rfl
     have bE : ad.cell? ⟨q, 1, none⟩ = some (u) := (blk_cell b.out 1).trans rfl
     have bF := blk_frozen b.out 0
     have bG := blk_frozen b.out 1
     obtain ⟨dg, dh, di⟩ := Kd.R_slice a.out
     subst di
     try go_wp2
     go_meet
     case rel => exact ⟨_, (J), (m), (c), (.slice dg c.length dh), H', ⟨by have := aE.out; first | omega | exact Nat.le_refl _⟩, ⟨Kd.S_below t.out lt_⟩, ⟨Kd.R_below l.out lt_⟩, ⟨Kd.R_below a.out lt_⟩, ⟨by refine bs_ ?_; exact d.out⟩, ⟨by refine bs_ ?_; exact b.out⟩, ⟨is_⟩, ⟨ku_⟩, ⟨hv_⟩⟩
    have be : decide (0 < (c.length : Int)) = true := decide_eq_true aM
    have bf : decide (0 < c.length) = true := decide_eq_true (by omega)
    clear aM
    replace H := bm_ H; obtain ⟨⟨aj, b4⟩, d2, H⟩ := H
    try dsimp only at H
    revert H; refine g_ (fun b5 H => ?_)
    have cC : decide (0 < (c.length : Int)) = true := decide_eq_true b5
    have cD : decide (0 < c.length) = true := decide_eq_true (by omega)
    clear b5
    obtain ⟨dj, aw⟩ : ∃ y_ : List (S68), y_ = (c.set (0 : Int).toNat (⟨(rd_T68 c 0).f0, wrap64 (aj - 3), (rd_T68 c 0).f2⟩ : S68)) := ⟨_, rfl⟩
    first | (replace H := bn_ aw H; try dsimp only at H) | rw [← aw] at H
    have cE := mk_ aw
    clear aw
    have H' := mk_ H
    clear H
    have es := x.out
    have eu := r.out
    have ew := D.out
    have ex := U.out
    have bH : ad.cell? ⟨q, 0, none⟩ = some (.int .i64 m) := (blk_cell b.out 0).trans rfl
    have bI : ad.cell? ⟨q, 1, none⟩ = some (u) := (blk_cell b.out 1).trans rfl
    have bJ := blk_frozen b.out 0
    have bK := blk_frozen b.out 1
    obtain ⟨dk, b6, dl⟩ := Kd.R_slice a.out
    subst dl
    try go_wp2
    replace t := mk_ (Kd.S_drew t.out)
    replace l := mk_ (Kd.R_drew l.out)
    replace a := mk_ (Kd.R_drew a.out)
    replace d := mk_ (blk_drew d.out)
    replace b := mk_ (blk_drew b.out)
    replace z := mk_ (IsS99.drew z.out)
    replace HK := mk_ (keep_drew HK.out)
    replace HB := mk_ (below_drew1 HB.out)
    refine start_ (n := 8) (S := fun w' => w'.cell? ⟨q, 0, none⟩ = some (.int .i64 m) ∧ w'.cell? ⟨q, 1, none⟩ = some (.slice dk c.length b6)) (ds := [7]) #[false, false, false, false, false, false, false, false] (by kernel_rfl) rfl rfl ⟨(blk_cell b.out 0).trans rfl, (blk_cell b.out 1).trans rfl⟩ (fun A => ?_); refine with_tabW spec_l20Proof.tab9 spec_l20Proof.bits9 (fun y ar => ?_)
    generalize ad.drew = fc at t l a d b z HK HB A ⊢
    refine pus_ 0 (some 46) (ao_ y) ?_
    refine pus_ 2 (some 48) (ao_ y) ?_
    refine tas_ 1 (some 47) (to_ y ar) A ?_
    refine ons_ 3 (some 49) (oo_ y) (fun K hK => ?_)
    refine goes_ Tryd.func52 (by kernel_rfl) rfl #[.pointer (some ⟨g, 0, none⟩), .int .i64 5] (by rfl) rfl rfl gl_ ?_
    with_reducible refine (spec_l20Rd_pick.calls aq g s J 5 aj b4 G _ ?side1 ?side2 d2.out).mono ?_
    (case side1 => exact is_)
    (case side2 => exact hv_)
    rintro e fd ⟨rfl, hi, hb, hk⟩
    refine ⟨_, rfl, ?_⟩
    replace t := mk_ (Kd.S_mono (Kd.S_keep (IsS99.apartS (is_ : IsS99 G _ g s J) (Kd.S_below t.out lt_) (by decide)) hk (fun _ h => h.2)) (fun _ h => h.1))
    replace l := mk_ (Kd.R_mono (Kd.R_keep (IsS99.apart (is_ : IsS99 G _ g s J) (Kd.R_below l.out lt_) (by decide)) hk (fun _ h => h.2)) (fun _ h => h.1))
    replace a := mk_ (Kd.R_mono (Kd.R_keep (IsS99.apart (is_ : IsS99 G _ g s J) (Kd.R_below a.out lt_) (by decide)) hk (fun _ h => h.2)) (fun _ h => h.1))
    replace d := kl_ hk d O
    replace b := kl_ hk b D
    replace HK := kd_ HK hk
    replace HB := mk_ (hb)
    replace z := mk_ (hi)
    (try clear hb)
    (try clear hb2)
    (try clear hk)
    (try clear hi)
    have bg : 0 ≤ (0 : Int) := (by omega)
    have bh : (0 : Int) < ((c.length : Int) : Int) := oa_
    have dm : (0 < c.length) = True := eq_true (by omega)
    obtain ⟨Z, eU, b7, b8, dn, eV, b9⟩ := Kd.R_form a.out (by omega)
    (first | cases b7 | (injection b7 with ea_ en_ ec_; (first | subst ea_ | (injection ea_ with ea_; subst ea_)); subst ec_; clear en_))
    have dp := mk_ b8
    have ca := mk_ b9
    clear b8 dn b9
    obtain ⟨eW, cF, cb, ax, ay⟩ := Kd.R_elem a.out z68 (0 : Int) bg bh
    obtain rfl := k68_openM cb
    have aH : World.cell? _ ⟨Z, (0 : Int).toNat * 3, none⟩ = some (.int .i64 ((rd_T68 c 0).f0)) := ax 0 _ rfl
    have aI : World.cell? _ ⟨Z, (0 : Int).toNat * 3 + 1, none⟩ = some (.int .i64 ((rd_T68 c 0).f1)) := ax 1 _ rfl
    have aJ : World.cell? _ ⟨Z, (0 : Int).toNat * 3 + 2, none⟩ = some (.int .i64 ((rd_T68 c 0).f2)) := ax 2 _ rfl
    have aR : World.frozen? _ ⟨Z, (0 : Int).toNat * 3, none⟩ = false := ay 0
    have aT : World.frozen? _ ⟨Z, (0 : Int).toNat * 3 + 1, none⟩ = false := ay 1
    have aU : World.frozen? _ ⟨Z, (0 : Int).toNat * 3 + 2, none⟩ = false := ay 2
    (try clear cb); clear cF ax ay
    (try rw [show ((0 : Int)).toNat = 0 from rfl] at aH)
    (try simp only [Nat.reduceMul, Nat.zero_mul, Nat.zero_add, Nat.reduceAdd] at aH)
    (try rw [show ((0 : Int)).toNat = 0 from rfl] at aR)
    (try simp only [Nat.reduceMul, Nat.zero_mul, Nat.zero_add, Nat.reduceAdd] at aR)
    (try rw [show ((0 : Int)).toNat = 0 from rfl] at aI)
    (try simp only [Nat.reduceMul, Nat.zero_mul, Nat.zero_add, Nat.reduceAdd] at aI)
    (try rw [show ((0 : Int)).toNat = 0 from rfl] at aT)
    (try simp only [Nat.reduceMul, Nat.zero_mul, Nat.zero_add, Nat.reduceAdd] at aT)
    (try rw [show ((0 : Int)).toNat = 0 from rfl] at aJ)
    (try simp only [Nat.reduceMul, Nat.zero_mul, Nat.zero_add, Nat.reduceAdd] at aJ)
    (try rw [show ((0 : Int)).toNat = 0 from rfl] at aU)
    (try simp only [Nat.reduceMul, Nat.zero_mul, Nat.zero_add, Nat.reduceAdd] at aU)
    replace bg := eq_true bg
    replace bh := eq_true bh
    have dq := mk_ (show g ≠ Z from by have h_ := IsS99.own_ne z.out a.out (by decide); intro e_; exact h_ (by rw [e_]; rfl))
    obtain ⟨eX, bj, cc, bk, cG⟩ := Kd.R_elem a.out z68 (0 : Int) (by omega) (by have h_ : (0 : Int) < ((c.length : Int) : Int) := oa_; first | exact h_ | (have e_ := (Kd.R_reads' a.out).1; omega) | simpa using h_)
    obtain rfl := k68_openM cc
    have aZ := (Kd.R_seg a.out (0 : Int) (by omega) (by have h_ : (0 : Int) < ((c.length : Int) : Int) := oa_; first | exact h_ | (have e_ := (Kd.R_reads' a.out).1; omega) | simpa using h_) (seg := [.int .i64 (wrap64 (aj - 3))]) (j := 1) bj bk (show 2 ≤ 3 from by decide) (x' := (⟨(rd_T68 c 0).f0, wrap64 (aj - 3), (rd_T68 c 0).f2⟩ : S68)) (k68_mkM _ _ _ (⟨(rd_T68 c 0).f0, wrap64 (aj - 3), (rd_T68 c 0).f2⟩ : S68) ) (fun _ hk => hk)).1
    rw [← cE.out] at aZ
    have dr := mk_ aZ
    (try clear cc); clear bj bk cG aZ
    refine hK.out _ _ ⟨(blk_cell b.out 0).trans rfl, (blk_cell b.out 1).trans rfl⟩ (fun A => ?_)
    clear hK K
    refine nor_ (some 49) ?_
    refine pus_ 4 (some 50) (ao_ y) ?_
    refine pus_ 5 (some 51) (ao_ y) ?_
    refine pus_ 6 (some 52) (ao_ y) ?_
    refine last_ (i := 7) (N := none) #[true, true, true, true, true, true, true, true] rfl rfl (one_of y.out (by kernel_rfl)) (by decide) (fun K hK => ?_)
    refine skip_ (w1 := ?_) (by rfl) rfl ?_ ?_
    rotate_left
    ·go_simp
     rfl
    refine hK.out _ _ ?_
    clear hK K
    refine done_ (done_of y.out (by kernel_rfl)) ?_
    try go_wp2
    go_meet
    case rel => exact ⟨_, (b4), (m), (dj), (.slice (some ⟨Z, 0, none⟩) c.length b6), H', ⟨by have := aE.out; first | omega | exact Nat.le_refl _⟩, ⟨by (with_reducible repeat (first | apply Kd.S_alloc | apply Kd.S_drewN | apply Kd.S_drew)); exact Kd.S_mono (Kd.S_far (p := ⟨Z, 1, none⟩) (Kd.S_types t.out ca.out (by decide)) (fun _ hk => hk.2) (.int .i64 (wrap64 (aj - 3)))) (fun _ hk => hk.1)⟩, ⟨by (with_reducible repeat (first | apply Kd.R_alloc | apply Kd.R_drewN | apply Kd.R_drew)); exact Kd.R_mono (Kd.R_far (p := ⟨Z, 1, none⟩) (Kd.R_types l.out ca.out (by decide)) (fun _ hk => hk.2) (.int .i64 (wrap64 (aj - 3)))) (fun _ hk => trivial)⟩, ⟨by exact dr.out⟩, ⟨by refine bs_ ?_; refine blk_far ?_ (by have h_ := Kd.R_ne a.out d.out (by decide); intro e_; exact h_ (by rw [e_]; rfl)) _; refine bs_ ?_; exact d.out⟩, ⟨by refine bs_ ?_; refine blk_far ?_ (by have h_ := Kd.R_ne a.out b.out (by decide); intro e_; exact h_ (by rw [e_]; rfl)) _; refine bs_ ?_; exact b.out⟩, ⟨is_⟩, ⟨ku_⟩, ⟨by repeat (first | (with_reducible first | exact HB.out | apply below_alloc | apply pw_below_drewN | apply below_drew1 | refine below_set ?_ (Nat.le_trans HL.out dp.out) | refine below_set ?_ (IsS99.ge z.out) | refine below_set ?_ a2.out | refine below_set ?_ a5.out) | exact HB.out)⟩⟩
   revert H; refine ti_ (fun aN H => ?_) fun aN H => ?_
   ·have bn : decide (0 < (c.length : Int)) = false := decide_eq_false aN
    have bo : decide (0 < c.length) = false := decide_eq_false (by omega)
    clear aN
    have H' := mk_ H
    clear H
    have ey := x.out
    have ez := r.out
    have eA := D.out
    have eB := U.out
    have bL : ad.cell? ⟨q, 0, none⟩ = some (.int .i64 m) := (blk_cell b.out 0).trans rfl
    have bM : ad.cell? ⟨q, 1, none⟩ = some (u) := (blk_cell b.out 1).trans rfl
    have bN := blk_frozen b.out 0
    have bO := blk_frozen b.out 1
    obtain ⟨du, dv, dw⟩ := Kd.R_slice a.out
    subst dw
    try go_wp2
    go_meet
    case rel => exact ⟨_, (J), (m), (c), (.slice du c.length dv), H', ⟨by have := aE.out; first | omega | exact Nat.le_refl _⟩, ⟨Kd.S_below t.out lt_⟩, ⟨Kd.R_below l.out lt_⟩, ⟨Kd.R_below a.out lt_⟩, ⟨by refine bs_ ?_; exact d.out⟩, ⟨by refine bs_ ?_; exact b.out⟩, ⟨is_⟩, ⟨ku_⟩, ⟨hv_⟩⟩
   have bn : decide (0 < (c.length : Int)) = true := decide_eq_true aN
   have bo : decide (0 < c.length) = true := decide_eq_true (by omega)
   clear aN
   replace H := bm_ H; obtain ⟨⟨B, aK⟩, d3, H⟩ := H
   try dsimp only at H
   replace H := bm_ H; obtain ⟨⟨ak, cd⟩, d4, H⟩ := H
   try dsimp only at H
   revert H; refine g_ (dt_ fun cH => g_ (dt_ fun cI H => ?_))
   obtain ⟨dx, az⟩ : ∃ y_ : List (S68), y_ = (c.set (B : Int).toNat (⟨ak, (rd_T68 c B).f1, (rd_T68 c B).f2⟩ : S68)) := ⟨_, rfl⟩
   first | (replace H := bn_ az H; try dsimp only at H) | rw [← az] at H
   have cJ := mk_ az
   clear az
   have H' := mk_ H
   clear H
   have eC := x.out
   have eD := r.out
   have eE := D.out
   have eF := U.out
   have bP : ad.cell? ⟨q, 0, none⟩ = some (.int .i64 m) := (blk_cell b.out 0).trans rfl
   have bQ : ad.cell? ⟨q, 1, none⟩ = some (u) := (blk_cell b.out 1).trans rfl
   have bR := blk_frozen b.out 0
   have bS := blk_frozen b.out 1
   obtain ⟨dy, ce, dz⟩ := Kd.R_slice a.out
   subst dz
   try go_wp2
   replace t := mk_ (Kd.S_drew t.out)
   replace l := mk_ (Kd.R_drew l.out)
   replace a := mk_ (Kd.R_drew a.out)
   replace d := mk_ (blk_drew d.out)
   replace b := mk_ (blk_drew b.out)
   replace z := mk_ (IsS99.drew z.out)
   replace HK := mk_ (keep_drew HK.out)
   replace HB := mk_ (below_drew1 HB.out)
   refine start_ (n := 12) (S := fun w' => w'.cell? ⟨q, 0, none⟩ = some (.int .i64 m) ∧ w'.cell? ⟨q, 1, none⟩ = some (.slice dy c.length ce)) (ds := [11]) #[false, false, false, false, false, false, false, false, false, false, false, false] (by kernel_rfl) rfl rfl ⟨(blk_cell b.out 0).trans rfl, (blk_cell b.out 1).trans rfl⟩ (fun A => ?_); refine with_tabW spec_l20Proof.tab16 spec_l20Proof.bits16 (fun y ar => ?_)
   generalize ad.drew = fe at t l a d b z HK HB A ⊢
   refine pus_ 0 (some 75) (ao_ y) ?_
   refine pus_ 2 (some 77) (ao_ y) ?_
   refine pus_ 3 (some 78) (ao_ y) ?_
   refine pus_ 7 (some 82) (ao_ y) ?_
   refine tas_ 1 (some 76) (to_ y ar) A ?_
   refine tas_ 4 (some 79) (to_ y ar) A ?_
   refine pus_ 5 (some 80) (ao_ y) ?_
   refine ons_ 6 (some 81) (oo_ y) (fun K hK => ?_)
   refine goes_ Tryd.func52 (by kernel_rfl) rfl #[.pointer (some ⟨g, 0, none⟩), .int .i64 (c.length : Int)] (by rfl) rfl rfl gl_ ?_
   with_reducible refine (spec_l20Rd_pick.calls aq g s J (c.length : Int) B aK G _ ?side1 ?side2 d3.out).mono ?_
   (case side1 => exact is_)
   (case side2 => exact hv_)
   rintro e ff ⟨rfl, hi, hb, hk⟩
   refine ⟨_, rfl, ?_⟩
   replace t := mk_ (Kd.S_mono (Kd.S_keep (IsS99.apartS (is_ : IsS99 G _ g s J) (Kd.S_below t.out lt_) (by decide)) hk (fun _ h => h.2)) (fun _ h => h.1))
   replace l := mk_ (Kd.R_mono (Kd.R_keep (IsS99.apart (is_ : IsS99 G _ g s J) (Kd.R_below l.out lt_) (by decide)) hk (fun _ h => h.2)) (fun _ h => h.1))
   replace a := mk_ (Kd.R_mono (Kd.R_keep (IsS99.apart (is_ : IsS99 G _ g s J) (Kd.R_below a.out lt_) (by decide)) hk (fun _ h => h.2)) (fun _ h => h.1))
   replace d := kl_ hk d O
   replace b := kl_ hk b D
   replace HK := kd_ HK hk
   replace HB := mk_ (hb)
   replace z := mk_ (hi)
   (try clear hb)
   (try clear hb2)
   (try clear hk)
   (try clear hi)
   refine hK.out _ _ ⟨(blk_cell b.out 0).trans rfl, (blk_cell b.out 1).trans rfl⟩ (fun A => ?_)
   clear hK K
   refine nor_ (some 81) ?_
   refine ons_ 8 (some 83) (oo_ y) (fun K hK => ?_)
   refine goes_ Tryd.func52 (by kernel_rfl) rfl #[.pointer (some ⟨g, 0, none⟩), .int .i64 5] (by rfl) rfl rfl gl_ ?_
   with_reducible refine (spec_l20Rd_pick.calls aq g s aK 5 ak cd G _ ?side1 ?side2 d4.out).mono ?_
   (case side1 => exact is_)
   (case side2 => exact hv_)
   rintro e fg ⟨rfl, hi, hb, hk⟩
   refine ⟨_, rfl, ?_⟩
   replace t := mk_ (Kd.S_mono (Kd.S_keep (IsS99.apartS (is_ : IsS99 G _ g s aK) (Kd.S_below t.out lt_) (by decide)) hk (fun _ h => h.2)) (fun _ h => h.1))
   replace l := mk_ (Kd.R_mono (Kd.R_keep (IsS99.apart (is_ : IsS99 G _ g s aK) (Kd.R_below l.out lt_) (by decide)) hk (fun _ h => h.2)) (fun _ h => h.1))
   replace a := mk_ (Kd.R_mono (Kd.R_keep (IsS99.apart (is_ : IsS99 G _ g s aK) (Kd.R_below a.out lt_) (by decide)) hk (fun _ h => h.2)) (fun _ h => h.1))
   replace d := kl_ hk d O
   replace b := kl_ hk b D
   replace HK := kd_ HK hk
   replace HB := mk_ (hb)
   replace z := mk_ (hi)
   (try clear hb)
   (try clear hb2)
   (try clear hk)
   (try clear hi)
   have bp : 0 ≤ (B : Int) := oa_
   have bq : (B : Int) < ((c.length : Int) : Int) := oa_
   obtain ⟨aa, eY, cf, cg, dA, eZ, ch⟩ := Kd.R_form a.out (by omega)
   (first | cases cf | (injection cf with ea_ en_ ec_; (first | subst ea_ | (injection ea_ with ea_; subst ea_)); subst ec_; clear en_))
   have dB := mk_ cg
   have ci := mk_ ch
   clear cg dA ch
   obtain ⟨e0, cK, cj, aA, aB⟩ := Kd.R_elem a.out z68 (B : Int) bp bq
   obtain rfl := k68_openM cj
   have ck : World.cell? _ ⟨aa, (B : Int).toNat * 3, none⟩ = some (.int .i64 ((rd_T68 c B).f0)) := aA 0 _ rfl
   have cl : World.cell? _ ⟨aa, (B : Int).toNat * 3 + 1, none⟩ = some (.int .i64 ((rd_T68 c B).f1)) := aA 1 _ rfl
   have cm : World.cell? _ ⟨aa, (B : Int).toNat * 3 + 2, none⟩ = some (.int .i64 ((rd_T68 c B).f2)) := aA 2 _ rfl
   have d5 : World.frozen? _ ⟨aa, (B : Int).toNat * 3, none⟩ = false := aB 0
   have d6 : World.frozen? _ ⟨aa, (B : Int).toNat * 3 + 1, none⟩ = false := aB 1
   have d7 : World.frozen? _ ⟨aa, (B : Int).toNat * 3 + 2, none⟩ = false := aB 2
   (try clear cj); clear cK aA aB
   replace bp := eq_true bp
   replace bq := eq_true bq
   have dC := mk_ (show g ≠ aa from by have h_ := IsS99.own_ne z.out a.out (by decide); intro e_; exact h_ (by rw [e_]; rfl))
   obtain ⟨e1, br, cn, bs, cL⟩ := Kd.R_elem a.out z68 (B : Int) (oa_) (by have h_ : (B : Int) < ((c.length : Int) : Int) := oa_; first | exact h_ | (have e_ := (Kd.R_reads' a.out).1; omega) | simpa using h_)
   obtain rfl := k68_openM cn
   have a0 := (Kd.R_seg a.out (B : Int) (oa_) (by have h_ : (B : Int) < ((c.length : Int) : Int) := oa_; first | exact h_ | (have e_ := (Kd.R_reads' a.out).1; omega) | simpa using h_) (seg := [.int .i64 ak]) (j := 0) br bs (show 1 ≤ 3 from by decide) (x' := (⟨ak, (rd_T68 c B).f1, (rd_T68 c B).f2⟩ : S68)) (k68_mkM _ _ _ (⟨ak, (rd_T68 c B).f1, (rd_T68 c B).f2⟩ : S68) ) (fun _ hk => hk)).1
   rw [← cJ.out] at a0
   have dD := mk_ a0
   (try clear cn); clear br bs cL a0
   refine hK.out _ _ ⟨(blk_cell b.out 0).trans rfl, (blk_cell b.out 1).trans rfl⟩ (fun A => ?_)
   clear hK K
   refine nor_ (some 83) ?_
   refine pus_ 9 (some 84) (ao_ y) ?_
   refine pus_ 10 (some 85) (ao_ y) ?_
   refine last_ (i := 11) (N := none) #[true, true, true, true, true, true, true, true, true, true, true, true] rfl rfl (one_of y.out (by kernel_rfl)) (by decide) (fun K hK => ?_)
   refine skip_ (w1 := ?_) (by rfl) rfl ?_ ?_
   rotate_left
   ·go_simp
    rfl
   refine hK.out _ _ ?_
   clear hK K
   refine done_ (done_of y.out (by kernel_rfl)) ?_
   try go_wp2
   go_meet
   case rel => exact ⟨_, (cd), (m), (dx), (.slice (some ⟨aa, 0, none⟩) c.length ce), H', ⟨by have := aE.out; first | omega | exact Nat.le_refl _⟩, ⟨by (with_reducible repeat (first | apply Kd.S_alloc | apply Kd.S_drewN | apply Kd.S_drew)); exact Kd.S_mono (Kd.S_far (p := ⟨aa, (B : Int).toNat * 3, none⟩) (Kd.S_types t.out ci.out (by decide)) (fun _ hk => hk.2) (.int .i64 ak)) (fun _ hk => hk.1)⟩, ⟨by (with_reducible repeat (first | apply Kd.R_alloc | apply Kd.R_drewN | apply Kd.R_drew)); exact Kd.R_mono (Kd.R_far (p := ⟨aa, (B : Int).toNat * 3, none⟩) (Kd.R_types l.out ci.out (by decide)) (fun _ hk => hk.2) (.int .i64 ak)) (fun _ hk => trivial)⟩, ⟨by exact dD.out⟩, ⟨by refine bs_ ?_; refine blk_far ?_ (by have h_ := Kd.R_ne a.out d.out (by decide); intro e_; exact h_ (by rw [e_]; rfl)) _; refine bs_ ?_; exact d.out⟩, ⟨by refine bs_ ?_; refine blk_far ?_ (by have h_ := Kd.R_ne a.out b.out (by decide); intro e_; exact h_ (by rw [e_]; rfl)) _; refine bs_ ?_; exact b.out⟩, ⟨is_⟩, ⟨ku_⟩, ⟨by repeat (first | (with_reducible first | exact HB.out | apply below_alloc | apply pw_below_drewN | apply below_drew1 | refine below_set ?_ (Nat.le_trans HL.out dB.out) | refine below_set ?_ (IsS99.ge z.out) | refine below_set ?_ a2.out | refine below_set ?_ a5.out) | exact HB.out)⟩⟩
  clear aY
  try clear dY
  try clear a8
  try clear a9
  try clear d1
  try clear bb
  try clear bc
  try clear aN
  try clear bn
  try clear bo
  try clear cH
  try clear cI
  try clear bp
  try clear bq
  try clear aM
  try clear be
  try clear bf
  try clear b5
  try clear cC
  try clear cD
  try clear bg
  try clear bh
  try clear dm
  try clear bP
  try clear bQ
  try clear bL
  try clear bM
  try clear bH
  try clear bI
  try clear bD
  try clear bE
  try clear bR
  try clear bS
  try clear bN
  try clear bO
  try clear bJ
  try clear bK
  try clear bF
  try clear bG
  try clear ck
  try clear cl
  try clear cm
  try clear aH
  try clear aI
  try clear aJ
  obtain ⟨kq, ai, L, T, u, HA, e2, t, l, a, d, b, z, HK, HB⟩ := hcut
  cases kq with
  | zero => exact absurd HA.out (by simp [spec_l20Proof.j1])
  | succ e3 =>
   have H := HA.out
   clear HA
   simp only [spec_l20Proof.j1] at H
   simp only [Option.some.injEq, Prod.mk.injEq] at H
   obtain ⟨rfl, rfl, rfl, rfl, rfl, rfl⟩ := H
   try go_wp2
   replace t := mk_ (Kd.S_drew t.out)
   replace l := mk_ (Kd.R_drew l.out)
   replace a := mk_ (Kd.R_drew a.out)
   replace d := mk_ (blk_drew d.out)
   replace b := mk_ (blk_drew b.out)
   replace z := mk_ (IsS99.drew z.out)
   replace HK := mk_ (keep_drew HK.out)
   replace HB := mk_ (below_drew1 HB.out)
   obtain ⟨co, cp, cq⟩ := Kd.R_slice a.out
   (first | subst cq | (injection cq with f1_ f2_ f3_; have b2 := f1_.symm; have b3 := f3_.symm; clear f1_ f2_ f3_; subst b2; subst b3))
   refine start_ (n := 8) (S := fun w' => w'.cell? ⟨q, 0, none⟩ = some (.int .i64 L) ∧ w'.cell? ⟨q, 1, none⟩ = some (.slice co T.length cp)) (ds := []) #[false, false, false, false, false, false, false, false] (by kernel_rfl) rfl rfl ⟨(blk_cell b.out 0).trans rfl, (blk_cell b.out 1).trans rfl⟩ (fun A => ?_); refine with_tabW spec_l20Proof.tab17 spec_l20Proof.bits17 (fun y ar => ?_)
   generalize wc.drew = cT at t l a d z HK HB A ⊢
   refine pus_ 0 (some 86) (ao_ y) ?_
   refine pus_ 1 (some 87) (ao_ y) ?_
   refine pus_ 2 (some 88) (ao_ y) ?_
   refine pus_ 4 (some 4) (ao_ y) ?_
   refine pus_ 5 (some 5) (ao_ y) ?_
   refine pus_ 6 (some 6) (ao_ y) ?_
   refine tas_ 3 (some 89) (to_ y ar) A ?_
   refine ons_ 7 none (oo_ y) (fun K hK => ?_)
   have e4 : cT.cell? ⟨E, 0, none⟩ = some (.int .i64 0) := (blk_cell d.out 0).trans rfl
   have eG := blk_frozen d.out 0
   have dL := x.out
   have dM := r.out
   have e5 : cT.cell? ⟨E, 1, none⟩ = some (.slice none 0 0) := (blk_cell d.out 1).trans rfl
   have eH := blk_frozen d.out 1
   have dN := x.out
   have dO := r.out
   refine skip_ (w1 := ?_) (by rfl) rfl ?_ ?_
   rotate_left
   ·go_simp
    rfl
   refine hK.out _ _ ⟨((cell_far (p := ⟨E, _, none⟩) x.out _).trans (((cell_far (p := ⟨E, _, none⟩) x.out _).trans (A.1)))), ((cell_far (p := ⟨E, _, none⟩) x.out _).trans (((cell_far (p := ⟨E, _, none⟩) x.out _).trans (A.2))))⟩ (fun A => ?_)
   clear hK K
   refine done_ (done_of y.out (by kernel_rfl)) ?_
   try go_wp2
   refine bodyPost_ret (results_list (rs := [.tmp 4, .tmp 5, .tmp 6, .cell 7 27]) rfl (by simp) (.tmp (.tmp (.tmp (.cell E 27 #[.int .i64 L, .slice co T.length cp] (0, 0) _ rfl (by refine bs_ ?_; refine blk_put (cs := #[.int .i64 L, .slice none 0 0]) ?_ 1 _ rfl; refine bs_ ?_; refine blk_put (cs := #[.int .i64 0, .slice none 0 0]) ?_ 0 _ rfl; refine bs_ ?_; exact d.out) Tryd.underlying27 rfl (by kernel_rfl) .nil))))) rfl ?_
   exact ⟨_, _, _, er_, by (with_reducible repeat (first | apply Kd.S_alloc | apply Kd.S_drewN | apply Kd.S_drew)); exact Kd.S_mono (Kd.S_far (Kd.S_far (Kd.S_types t.out d.out (by decide)) (fun _ hk => hk.2) _) (fun _ hk => hk.2) _) (fun _ hk => hk.1), by (with_reducible repeat (first | apply Kd.R_alloc | apply Kd.R_drewN | apply Kd.R_drew)); exact Kd.R_mono (Kd.R_far (Kd.R_far (Kd.R_types l.out d.out (by decide)) (fun _ hk => hk.2) _) (fun _ hk => hk.2) _) (fun _ hk => trivial), by (with_reducible repeat (first | apply Kd.R_alloc | apply Kd.R_drewN | apply Kd.R_drew)); exact Kd.R_mono (Kd.R_far (Kd.R_far (Kd.R_types a.out d.out (by decide)) (fun _ hk => hk.2) _) (fun _ hk => hk.2) _) (fun _ hk => trivial), is_, hv_, ku_⟩
end Go.Proofs.YtcaogllnbpmcgaaDoor.P

/- Go's functions come to just the answers of the Lean functions told here. -/
import Derived.Test.YtcaogllnbpmcgaaDoorPx19
import Derived.Test.YtcaogllnbpmcgaaDoorPx26
set_option maxHeartbeats 8000000
set_option maxRecDepth 100000
namespace Go.Proofs.YtcaogllnbpmcgaaDoor.P
open Go.RowKit Go.Proofs.YtcaogllnbpmcgaaDoorW.PrintWords Go.Proofs.YtcaogllnbpmcgaaDoorW.PrintLast Go.Proofs.YtcaogllnbpmcgaaDoorW.PrintMore
attribute [local go_sem] max2_int min2_int max_two min_two max_three min_three max_four min_four
set_option linter.unusedVariables false
set_option linter.unusedSimpArgs false
def spec_l20Claim.j0 : Nat → List Int → Int → Int → List (S82) → Option (Int × (List (S82)) × Int)
 | 0, _, _, _, _ => none
 | k + 1, x1000, x1001, x328000, x328001 => some (x328000, x328001, x1001)
def spec_l20Claim.f (k : Nat) (s0_0 : List Int) (s0_1 : Int) (a1 : Int) (a2 : Int) : Option (Int × (List (S82)) × Int) := (spec_l20Rd_pick.f k s0_0 s0_1 (mx a1 1)).bind fun bt321 => ((spec_l20Term.f k s0_0 bt321.2 a1 (wrap64 (a2 * 2))).bind fun bt323 => ((spec_l20Rd_odd.f k s0_0 bt323.2 a2).bind fun bt328 => (if bt328.1 = true then ((some (([(-1), 4] : List Int) : List Int)).bind fun y330 => ((spec_l20Rd_pick.f k s0_0 bt328.2 2).bind fun bt333 => (if 0 ≤ bt333.1 then (if bt333.1 < (y330.length : Int) then (spec_l20Claim.j0 k s0_0 bt333.2 (rd y330 bt333.1) bt323.1) else (none)) else (none)))) else (spec_l20Claim.j0 k s0_0 bt328.2 bt321.1 bt323.1))))
theorem spec_l20Claim.calls (k : Nat) (g : Nat) (d : List Int) (E : Int) (U : Int) (X : Int) (r1 : Int) (r2 : List (S82)) (r3 : Int) (p w : World) (hI : IsS99 p w g d E) (hB : Below p.heap.size p w) (h : spec_l20Claim.f k d E U X = some (r1, r2, r3)) :
  Calls Tryd.prog 87 #[.pointer (some ⟨g, 0, none⟩), .int .i64 U, .int .i64 X] w fun e w' => ∃ ao : Value, e = .returned (.agg #[.int .i64 r1, ao]) ∧ Kd.R k82 82 w' w.heap.size (fun _ => True) ao r2 ∧ IsS99 p w' g d r3 ∧ Below p.heap.size p w' ∧ KeepBut w w' g none := by
 have bc := Tryd.underlying79
 have s := mk_ hI
 have HK := mk_ (KeepBut.refl w g none)
 have HL := mk_ hB.size
 clear hI
 have ap := mk_ hB.size
 have HB := mk_ hB
 clear hB
 unfold spec_l20Claim.f at h
 have H := h
 clear h
 obtain ⟨P, y⟩ : ∃ j_ : Int, (mx U 1) = j_ := ⟨_, rfl⟩
 first | rw [y] at H | simp only [y] at H
 (try (have aO : 1 ≤ P := by (rw [← y]; unfold mx; (repeat' split) <;> omega)))
 (try (have aP : 0 ≤ P := by omega))
 have aQ : (if U < 1 then 1 else U) = P := y
 replace H := bm_ H; obtain ⟨⟨x, ai⟩, A5, H⟩ := H
 try dsimp only at H
 replace H := bm_ H; obtain ⟨⟨n, G⟩, A6, H⟩ := H
 try dsimp only at H
 replace H := bm_ H; obtain ⟨⟨ay, I⟩, A7, H⟩ := H
 try dsimp only at H
 have aj := mk_ H
 clear H
 go_enter Tryd.func87, Tryd.ntmps87
 go_upto_if 20 with (first | ((with_reducible refine gate_dst (N := 6) rfl ?_); refine gx_ 6 #[.int .i64 0, .slice none 0 0] 79 ?_; intro i hg w9 J hb; replace HB := hs_ HB hb; have a := mk_ (J); have aR := mk_ ((by rw [hg]; exact (keep_size (w := w) (g := g) (row := none) (keep_at HK.out)) : w.heap.size ≤ i)); have aS := mk_ ((Nat.le_trans ap.out (by rw [hg]; exact (keep_size (w := w) (g := g) (row := none) (keep_at HK.out)) : w.heap.size ≤ i) : p.heap.size ≤ i)); replace HK := kb_ HK hb; have Y := mk_ ((by rw [hg]; exact Nat.ne_of_lt (IsS99.lt (show IsS99 p _ g d E from IsS99.below s.out lt_)) : g ≠ i)); have q := mk_ ((by rw [hg]; exact Nat.ne_of_gt (IsS99.lt (show IsS99 p _ g d E from IsS99.below s.out lt_)) : i ≠ g)); replace s := mk_ (IsS99.below (IsS99.below s.out lt_) hb); clear hb J hg) | ((with_reducible refine gate_callee (f := 52) rfl ?_); refine goesL_ (some 11) rfl rfl Tryd.func52 (by kernel_rfl) rfl #[.pointer (some ⟨g, 0, none⟩), .int .i64 P] rfl (by (try simp only [List.map_toArray, List.map_cons, List.map_nil]); first | done | (simp only [y]; rfl) | rfl | (simp only [List.length_drop, List.length_take]; rfl)) ?_; (with_reducible refine mo_ (spec_l20Rd_pick.calls k g d E P x ai p _ ?side1 ?side2 A5.out) ?_); (case side1 => exact is_); (case side2 => exact hv_); rintro bo ⟨hi, hb, hk⟩; replace a := kl_ hk a q; replace HK := kd_ HK hk; replace HB := mk_ (hb); replace s := mk_ (hi); (try clear hb)) | ((with_reducible refine gate_callee (f := 74) rfl ?_); refine gc_ 74 (some 16) Tryd.func74 #[.pointer (some ⟨g, 0, none⟩), .int .i64 U, .int .i64 (wrap64 (X * 2))] ?_; (with_reducible refine (spec_l20Term.calls k g d ai U (wrap64 (X * 2)) n G p _ ?side1 ?side2 A6.out).mono ?_); (case side1 => exact is_); (case side2 => exact hv_); rintro e bp ⟨bh, rfl, aq, hi, hb, hk⟩; refine ⟨_, rfl, ?_⟩; replace a := kl_ hk a q; have m := mk_ (Kd.R_lower aq (keep_size (w := w) (g := g) (row := none) ku_)); replace HK := kd_ HK hk; replace HB := mk_ (hb); replace s := mk_ (hi); (try clear hb); (try clear aq); obtain ⟨t, u, az⟩ := Kd.R_slice m.out; subst az) | ((with_reducible refine gate_dst (N := 7) rfl ?_); refine gx_ 7 #[.int .i64 0, .slice none 0 0] 79 ?_; intro c hg ar J hb; replace m := mk_ (Kd.R_below (Kd.R_below m.out lt_) hb); replace HB := mk_ (below_step hv_ hb); have b := mk_ (J); have aT := mk_ ((by rw [hg]; exact (keep_size (w := w) (g := g) (row := none) ku_) : w.heap.size ≤ c)); have aU := mk_ ((Nat.le_trans ap.out (by rw [hg]; exact (keep_size (w := w) (g := g) (row := none) ku_) : w.heap.size ≤ c) : p.heap.size ≤ c)); replace HK := kd_ HK (KeepBut.of_below hb g none); have j := nl_ hg a.out; have v := ng_ hg a.out; replace a := mk_ (blk_below (g := i) (o := .cells #[.int .i64 0, .slice none 0 0] 79 (0, 0)) (bk_ a.out) hb); have z := mk_ ((by rw [hg]; exact Nat.ne_of_lt (IsS99.lt (is_ : IsS99 p _ g d G)) : g ≠ c)); have r := mk_ ((by rw [hg]; exact Nat.ne_of_gt (IsS99.lt (is_ : IsS99 p _ g d G)) : c ≠ g)); replace s := mk_ (IsS99.below is_ hb); clear hb J hg; have aV := v.out; have aW := j.out; have aX := r.out; have aY := z.out; have Z : ar.cell? ⟨c, 0, none⟩ = some (.int .i64 0) := (blk_cell b.out 0).trans rfl; have aa : ar.cell? ⟨c, 1, none⟩ = some (.slice none 0 0) := (blk_cell b.out 1).trans rfl; have ab := blk_frozen b.out 0; have ac := blk_frozen b.out 1) | ((with_reducible refine gate_callee (f := 55) rfl ?_); refine gc_ 55 (some 20) Tryd.func55 #[.pointer (some ⟨g, 0, none⟩), .int .i64 X] ?_; (with_reducible refine mo_ (spec_l20Rd_odd.calls k g d G X ay I p _ ?side1 ?side2 A7.out) ?_); (case side1 => exact is_); (case side2 => exact hv_); rintro bq ⟨hi, hb, hk⟩; replace a := mk_ (KeepBut.blk hk (g' := i) (o := .cells #[.int .i64 0, .slice none 0 0] 79 (0, 0)) (by refine bs_ ?_; refine blk_far ?_ j.out _; refine bs_ ?_; refine blk_far ?_ j.out _; refine bs_ ?_; exact a.out) q.out (by simp)); replace m := mk_ (Kd.R_mono (Kd.R_keep (IsS99.apart (is_ : IsS99 p _ g d G) (by (with_reducible repeat (first | apply Kd.R_alloc | apply Kd.R_drewN | apply Kd.R_drew)); exact (Kd.R_mono (Kd.R_far (Kd.R_far (Kd.R_types m.out b.out (by decide)) (fun _ hk => hk.2) _) (fun _ hk => hk.2) _) (fun _ h_ => h_.1))) (by decide)) hk (fun _ h => h.2)) (fun _ h => h.1)); replace b := mk_ (KeepBut.blk hk (g' := c) (o := .cells #[.int .i64 x, .slice t n.length u] 79 (0, 0)) (by refine bs_ ?_; refine blk_put (cs := #[.int .i64 x, .slice none 0 0]) ?_ 1 _ rfl; refine bs_ ?_; refine blk_put (cs := #[.int .i64 0, .slice none 0 0]) ?_ 0 _ rfl; refine bs_ ?_; exact b.out) r.out (by simp)); replace HK := kd_ HK hk; replace HB := mk_ (hb); replace s := mk_ (hi); (try clear hb)))
 (try simp only [Act.put, z0_, z1_, z2_])
 go_cut [] (fun wc => ∃ (kq : Nat) (A : Int) (l : Int), Aside0 (spec_l20Claim.j0 kq d A l n = some (r1, r2, r3)) ∧ Aside0 (kq ≤ k) ∧ Aside0 (Kd.R k82 82 wc w.heap.size (fun _ => True) (.slice t n.length u) n) ∧ Aside0 (wc.heap[i]? = some (.cells #[.int .i64 0, (.slice none 0 0)] 79 (0, 0))) ∧ Aside0 (wc.heap[c]? = some (.cells #[.int .i64 l, (.slice t n.length u)] 79 (0, 0))) ∧ Aside0 (IsS99 p wc g d A) ∧ Aside0 (KeepBut w wc g none) ∧ Aside0 (Below p.heap.size p wc))
 case first =>
  have H := aj.out
  clear aj
  revert H; refine bi_ ?_ ?_ <;> rintro rfl H
  ·have H' := mk_ H
   clear H
   go_wp2
   go_meet
   case rel => exact ⟨_, (I), (x), H', ⟨by first | omega | exact Nat.le_refl _⟩, ⟨Kd.R_below m.out lt_⟩, ⟨by refine bs_ ?_; exact a.out⟩, ⟨by refine bs_ ?_; exact b.out⟩, ⟨is_⟩, ⟨ku_⟩, ⟨hv_⟩⟩
  obtain ⟨ak, B⟩ : ∃ y_ : List Int, y_ = (([(-1), 4] : List Int)) := ⟨_, rfl⟩
  first | (replace H := bn_ B H; try dsimp only at H) | rw [← B] at H
  have W := mk_ B
  clear B
  replace H := bm_ H; obtain ⟨⟨L, al⟩, aM, H⟩ := H
  try dsimp only at H
  revert H; refine g_ (dt_ fun O H => ?_)
  (first | rw [O] | (simp only [i64_w, i32_w]; rw [O]) | skip)
  revert H; refine g_ (dt_ fun am H => ?_)
  have H' := mk_ H
  clear H
  go_wp2_with (first | ((with_reducible refine gate_dst (N := 21) rfl ?_); refine Kd.R_lit (Kd.int .i64) _ 3 ?hg (N := 21) ?hd (xs := ([(-1), 4] : List Int)) (inner := [.int .i64 (-1), .int .i64 4]) (ok := fun _ => True) (okp := fun _ => True) ?hr ?hp (fun _ hk => hk) trivial (Below.refl _ _) (Nat.le_refl _) (by simp) ?_; (case hd => rfl); (case hg => rfl); (case hr => first | (go_simp; done) | (go_simp; rfl)); (case hp => exact (Reps.one (show Kd.M (Kd.int .i64) _ _ _ (-1) [.int .i64 (-1)] from rfl) (Reps.one (show Kd.M (Kd.int .i64) _ _ _ 4 [.int .i64 4] from rfl) (Reps.none _ _)))); intro bj br K hb aN an; clear aN an; (first | rw [← W.out] at K | (simp only [Int.reduceToNat] at K; rw [← W.out] at K)); replace m := mk_ (Kd.R_below (Kd.R_below m.out lt_) hb); have D := mk_ (Kd.R_lower K (keep_size (w := w) (g := g) (row := none) ku_)); replace a := mk_ (blk_below (g := i) (o := .cells #[.int .i64 0, .slice none 0 0] 79 (0, 0)) (bk_ a.out) hb); replace b := mk_ (blk_below (g := c) (o := .cells #[.int .i64 x, .slice t n.length u] 79 (0, 0)) (bk_ b.out) hb); replace HK := kd_ HK (KeepBut.of_below hb g none); replace HB := mk_ (below_step hv_ hb); replace s := mk_ (IsS99.below is_ hb); clear hb K) | ((with_reducible refine gate_callee (f := 52) rfl ?_); refine gc_ 52 (some 23) Tryd.func52 #[.pointer (some ⟨g, 0, none⟩), .int .i64 2] ?_; (with_reducible refine mo_ (spec_l20Rd_pick.calls k g d I 2 L al p _ ?side1 ?side2 aM.out) ?_); (case side1 => exact is_); (case side2 => exact hv_); rintro au ⟨hi, hb, hk⟩; replace a := kl_ hk a q; replace m := mk_ (Kd.R_mono (Kd.R_keep (IsS99.apart (is_ : IsS99 p _ g d I) (Kd.R_below m.out lt_) (by decide)) hk (fun _ h => h.2)) (fun _ h => h.1)); replace b := kl_ hk b r; replace D := mk_ (Kd.R_mono (Kd.R_keep (IsS99.apart (is_ : IsS99 p _ g d I) (Kd.R_below D.out lt_) (by decide)) hk (fun _ h => h.2)) (fun _ h => h.1)); replace HK := kd_ HK hk; replace HB := mk_ (hb); replace s := mk_ (hi); (try clear hb); obtain ⟨bk, bn, aA⟩ := Kd.R_slice D.out; subst aA; obtain ⟨aZ, aB, ad⟩ := Kd.at_int (Kd.R_reads' D.out).2.2 L oa_ oa_; cases aB; obtain ⟨aC, aD⟩ := pq_ (L : Int) (ak.length : Int); have a0 := v.out; have a3 := j.out; have a4 := r.out; have a5 := z.out; have ae : au.cell? ⟨c, 0, none⟩ = some (.int .i64 x) := (blk_cell b.out 0).trans rfl; have af : au.cell? ⟨c, 1, none⟩ = some (.slice t n.length u) := (blk_cell b.out 1).trans rfl; have ag := blk_frozen b.out 0; have ah := blk_frozen b.out 1))
  go_meet
  case rel => exact ⟨_, (al), (rd ak L), H', ⟨by first | omega | exact Nat.le_refl _⟩, ⟨by (with_reducible repeat (first | apply Kd.R_alloc | apply Kd.R_drewN | apply Kd.R_drew)); exact Kd.R_mono (Kd.R_far (Kd.R_types m.out b.out (by decide)) (fun _ hk => hk.2) _) (fun _ hk => trivial)⟩, ⟨by refine bs_ ?_; refine blk_far ?_ j.out _; refine bs_ ?_; exact a.out⟩, ⟨by refine bs_ ?_; refine blk_put (cs := #[.int .i64 x, .slice t n.length u]) ?_ 0 _ rfl; refine bs_ ?_; exact b.out⟩, ⟨is_⟩, ⟨ku_⟩, ⟨hv_⟩⟩
 clear aj
 try clear O
 try clear am
 try clear Z
 try clear aa
 try clear ae
 try clear af
 try clear ab
 try clear ac
 try clear ag
 try clear ah
 try clear ad
 try clear aC
 try clear aD
 obtain ⟨kq, A, l, HA, bs, T, a, b, s, HK, HB⟩ := hcut
 cases kq with
 | zero => exact absurd HA.out (by simp [spec_l20Claim.j0])
 | succ bu =>
  have H := HA.out
  clear HA
  simp only [spec_l20Claim.j0] at H
  simp only [Option.some.injEq, Prod.mk.injEq] at H
  obtain ⟨rfl, rfl, rfl⟩ := H
  have a6 := v.out
  have a7 := j.out
  have a8 := r.out
  have a9 := z.out
  have aE : wc.cell? ⟨c, 0, none⟩ = some (.int .i64 l) := (blk_cell b.out 0).trans rfl
  have aF : wc.cell? ⟨c, 1, none⟩ = some (.slice t n.length u) := (blk_cell b.out 1).trans rfl
  have aG := blk_frozen b.out 0
  have aH := blk_frozen b.out 1
  have ba := q.out
  have bb := Y.out
  have aI : wc.cell? ⟨i, 0, none⟩ = some (.int .i64 0) := (blk_cell a.out 0).trans rfl
  have aJ : wc.cell? ⟨i, 1, none⟩ = some (.slice none 0 0) := (blk_cell a.out 1).trans rfl
  have aK := blk_frozen a.out 0
  have aL := blk_frozen a.out 1
  go_wp2
  refine bodyPost_ret (results_cell_row rfl _ _ i 79 #[.int .i64 l, .slice t n.length u] (0, 0) _ rfl (by refine bs_ ?_; refine blk_put (cs := #[.int .i64 l, .slice none 0 0]) ?_ 1 _ rfl; refine bs_ ?_; refine blk_put (cs := #[.int .i64 0, .slice none 0 0]) ?_ 0 _ rfl; refine bs_ ?_; exact a.out) Tryd.underlying79 rfl (by kernel_rfl)) rfl ?_
  exact ⟨_, by first | rfl | (simp [errW_none, errW_some] <;> rfl) | (simp only [← y]; first | rfl | (simp [errW_none, errW_some] <;> rfl)) | (simp [*, errW_none, errW_some] <;> rfl), by (with_reducible repeat (first | apply Kd.R_alloc | apply Kd.R_drewN | apply Kd.R_drew)); exact Kd.R_mono (Kd.R_far (Kd.R_far (Kd.R_types T.out a.out (by decide)) (fun _ hk => hk.2) _) (fun _ hk => hk.2) _) (fun _ hk => trivial), is_, hv_, ku_⟩
mutual
def spec_l20Story.l0 : Nat → Int → Int → List (S79) → Int → List Int → Int → Option (Int × (List (S79)) × Int)
 | 0, _, _, _, _, _, _ => none
 | k + 1, x1, x6, x7, x8, x1000, x1001 => if x8 > 0 then ((spec_l20Claim.f k x1000 x1001 x6 (wrap64 (x1 * 3))).bind fun bt343 => (if x7.length < 4398046511104 then (spec_l20Story.l0 k x1 x6 (x7 ++ [(⟨bt343.1, bt343.2.1⟩ : S79)]) (wrap64 (x8 - 1)) x1000 bt343.2.2) else (none))) else ((spec_l20Rd_odd.f k x1000 x1001 x1).bind fun bt351 => (if bt351.1 = true then (spec_l20Story.l1 k x6 x7 x1000 bt351.2) else (some (x6, x7, bt351.2))))
def spec_l20Story.l1 : Nat → Int → List (S79) → List Int → Int → Option (Int × (List (S79)) × Int)
 | 0, _, _, _, _ => none
 | k + 1, x6, x7, x1000, x1001 => if (x7.length : Int) < 7 then (if x7.length < 4398046511104 then (spec_l20Story.l1 k x6 (x7 ++ [(⟨0, (([(⟨0, 0⟩ : S82)] : List (S82)))⟩ : S79)]) x1000 x1001) else (none)) else (some (x6, x7, x1001))
end
def spec_l20Story.f (k : Nat) (s0_0 : List Int) (s0_1 : Int) (a1 : Int) : Option (Int × (List (S79)) × Int) := (spec_l20Rd_pick.f k s0_0 s0_1 4).bind fun bt336 => ((spec_l20Rd_pick.f k s0_0 bt336.2 5).bind fun bt341 => (spec_l20Story.l0 k a1 (wrap64 (1 + bt336.1)) (([] : List (S79))) bt341.1 s0_0 bt341.2))
theorem spec_l20Story.calls (k : Nat) (g : Nat) (d : List Int) (K : Int) (y : Int) (Y : Int) (Z : List (S79)) (r3 : Int) (l w : World) (hI : IsS99 l w g d K) (hB : Below l.heap.size l w) (h : spec_l20Story.f k d K y = some (Y, Z, r3)) :
  Calls Tryd.prog 73 #[.pointer (some ⟨g, 0, none⟩), .int .i64 y] w fun e w' => ∃ aw : Value, e = .returned (.tuple #[.int .i64 Y, aw]) ∧ Kd.S k79 79 w' w.heap.size (fun _ => True) aw Z ∧ IsS99 l w' g d r3 ∧ Below l.heap.size l w' ∧ KeepBut w w' g none := by
 have aI := Tryd.underlying82
 have aJ := Tryd.underlying79
 have c := mk_ hI
 have HK := mk_ (KeepBut.refl w g none)
 have HL := mk_ hB.size
 clear hI
 have a0 := mk_ hB.size
 have HB := mk_ hB
 clear hB
 unfold spec_l20Story.f at h
 have H := h
 clear h
 replace H := bm_ H; obtain ⟨⟨m, z⟩, A3, H⟩ := H
 try dsimp only at H
 obtain ⟨ab, A⟩ : ∃ y_ : List (S79), y_ = (([] : List (S79))) := ⟨_, rfl⟩
 replace H : ((spec_l20Rd_pick.f k d z 5).bind fun P => (spec_l20Story.l0 k y (wrap64 (1 + m)) ab P.1 d P.2)) = some (Y, Z, r3) := by first | (rw [A]; exact H) | exact H
 have T := mk_ A
 clear A
 replace H := bm_ H; obtain ⟨⟨ac, ad⟩, A4, H⟩ := H
 try dsimp only at H
 have H' := mk_ H
 clear H
 go_enter Tryd.func73, Tryd.ntmps73
 go_wp2_with (first | ((with_reducible refine gate_callee (f := 52) rfl ?_); refine gc_ 52 (some 10) Tryd.func52 #[.pointer (some ⟨g, 0, none⟩), .int .i64 4] ?_; (with_reducible refine mo_ (spec_l20Rd_pick.calls k g d K 4 m z l _ ?side1 ?side2 A3.out) ?_); (case side1 => exact IsS99.below c.out lt_); (case side2 => exact below_at HB.out); rintro w5 ⟨hi, hb, hk⟩; replace HK := kc_ HK hk; replace HB := mk_ (hb); replace c := mk_ (hi); (try clear hb)) | ((with_reducible refine gate_dst (N := 12) rfl ?_); refine Kd.S_lit k79 _ 79 ?hg (N := 12) ?hd (xs := ([] : List (S79))) (inner := []) (ok := fun _ => True) (okp := fun _ => True) ?hr ?hp (fun _ hk => hk) trivial (Below.refl _ _) (Nat.le_refl _) (by simp) ?_; (case hd => rfl); (case hg => rfl); (case hr => first | (go_simp; done) | (go_simp; rfl)); (case hp => exact (Reps.none _ _)); intro aN w6 I hb ae B; clear ae B; (first | rw [← T.out] at I | (simp only [Int.reduceToNat] at I; rw [← T.out] at I)); have D := mk_ (Kd.S_lower I (keep_size (w := w) (g := g) (row := none) (keep_at HK.out))); replace c := mk_ (IsS99.below (IsS99.below c.out lt_) hb); replace HK := kb_ HK hb; replace HB := hs_ HB hb; clear hb I) | ((with_reducible refine gate_callee (f := 52) rfl ?_); refine gc_ 52 (some 14) Tryd.func52 #[.pointer (some ⟨g, 0, none⟩), .int .i64 5] ?_; (with_reducible refine mo_ (spec_l20Rd_pick.calls k g d z 5 ac ad l _ ?side1 ?side2 A4.out) ?_); (case side1 => exact IsS99.below c.out lt_); (case side2 => exact below_at HB.out); rintro w8 ⟨hi, hb, hk⟩; replace D := mk_ (Kd.S_mono (Kd.S_keep (IsS99.apartS (show IsS99 l _ g d z from IsS99.below c.out lt_) (Kd.S_below D.out lt_) (by decide)) hk (fun _ h => h.2)) (fun _ h => h.1)); replace HK := kc_ HK hk; replace HB := mk_ (hb); replace c := mk_ (hi); (try clear hb)))
 go_loopg [7, 8] k (fun kq v7 v8 w' => ∃ (n : List (S79)) (E : Int) (i : Int), v8 = .int .i64 E ∧ Aside0 (spec_l20Story.l0 kq y (wrap64 (1 + m)) n E d i = some (Y, Z, r3)) ∧ Aside0 (kq ≤ k) ∧ Aside0 (Kd.S k79 79 w' w.heap.size (fun _ => True) v7 n) ∧ Aside0 (IsS99 l w' g d i) ∧ Aside0 (KeepBut w w' g none) ∧ Aside0 (Below l.heap.size l w'))
 case atStart => exact ⟨(ab), (ac), (ad), sm_, H', ⟨Nat.le_refl _⟩, ⟨Kd.S_below D.out lt_⟩, ⟨IsS99.below c.out lt_⟩, ⟨keep_at HK.out⟩, ⟨below_at HB.out⟩⟩
 clear H'
 obtain ⟨n, E, i, rfl, HA, U, a, c, HK, HB⟩ := hrel
 cases gk with
 | zero => exact absurd HA.out (by simp [spec_l20Story.l0])
 | succ X =>
  have H := HA.out
  clear HA
  simp only [spec_l20Story.l0] at H
  revert H; refine it_ (dt_g fun af H => ?_) (df_g fun af H => ?_)
  ·replace H := bm_ H; obtain ⟨⟨v, o, ag⟩, aH, H⟩ := H
   try dsimp only at H
   revert H; refine g_ (mt_ fun am H => ?_)
   obtain ⟨aA, q⟩ : ∃ y_ : List (S79), y_ = (n ++ [(⟨v, o⟩ : S79)]) := ⟨_, rfl⟩
   first | (replace H := bn_ q H; try dsimp only at H) | rw [← q] at H
   have an := mk_ q
   clear q
   have H' := mk_ H
   clear H
   go_wp2_with (first | ((with_reducible refine gate_callee (f := 87) rfl ?_); refine gc_ 87 (some 24) Tryd.func87 #[.pointer (some ⟨g, 0, none⟩), .int .i64 (wrap64 (1 + m)), .int .i64 (wrap64 (y * 3))] ?_; (with_reducible refine (spec_l20Claim.calls X g d i (wrap64 (1 + m)) (wrap64 (y * 3)) v o ag l _ ?side1 ?side2 aH.out).mono ?_); (case side1 => exact IsS99.below c.out lt_); (case side2 => exact below_at HB.out); rintro e a2 ⟨aR, rfl, ah, hi, hb, hk⟩; refine ⟨_, rfl, ?_⟩; replace a := mk_ (Kd.S_mono (Kd.S_told (Kd.S_oldK (IsS99.apartS (show IsS99 l _ g d i from IsS99.below c.out lt_) (Kd.S_below a.out lt_) (by decide)) hk) (Kd.R_base ah)) (fun _ h_ => h_.1)); have r := mk_ (Kd.R_lower ah (keep_size (w := w) (g := g) (row := none) (keep_at HK.out))); replace HK := kc_ HK hk; replace HB := mk_ (hb); replace c := mk_ (hi); (try clear hb); (try clear ah); obtain ⟨ai, aj, aB⟩ := Kd.R_slice r.out; subst aB) | ((with_reducible refine gate_builtin (b := .append) (xs := #[.tmp 19, .tmp 25]) rfl ?_); at_builtin; refine Kd.S_append k79 w.heap.size rfl (.tmp 19) (.tmp 25) 23 79 (.agg #[(.int .i64 0), (.slice none 0 0)]) 32 rfl Tryd.underlying23 info79 rfl (by decide) (by omega) u7 n (⟨v, o⟩ : S79) [.int .i64 v, .slice ai o.length aj] (fun _ => True) (fun k_ => some k_ = (.slice ai o.length aj : Value).ownBlock) rfl rfl ?aP (fun k_ hk_ => ((Kd.R_mono (ok' := fun k_ => ((fun _ => True)) k_ ∧ some k_ ≠ (u7 : Value).ownBlock) (Kd.R_apart' (r.out) (Kd.S_typed a.out) (by decide)) (fun k_ hk => ⟨trivial, hk.2⟩))).1 k_ hk_.symm) ?aF ?aO (Below.refl _ _) ?aS ?aL ?_; (case aP => exact k79_mkM _ _ _ (⟨v, o⟩ : S79) (Kd.R_mono (Kd.R_tight rfl (Kd.R_mono (ok' := fun k_ => ((fun _ => True)) k_ ∧ some k_ ≠ (u7 : Value).ownBlock) (Kd.R_apart' (r.out) (Kd.S_typed a.out) (by decide)) (fun k_ hk => ⟨trivial, hk.2⟩))) (fun _ h_ => h_))); (case aF => exact (fun _ _ => trivial)); (case aO => exact (Kd.S_below (Kd.S_mono a.out (fun k_ hk => ⟨trivial, fun e_ => hk.2 e_⟩)) lt_)); (case aS => exact (keep_size (w := w) (g := g) (row := none) (keep_at HK.out))); (case aL => have := am.out; omega); intro aT a3 ho hb hg hat; rw [← an.out] at ho; replace c := mk_ (IsS99.grown (IsS99.below c.out lt_) hg (IsS99.own_neS c.out a.out (by decide))); replace HB := mk_ (below_weaken (below_at HB.out) HL.out hb); replace HK := mk_ (KeepBut.trans (keep_at HK.out) (KeepBut.of_grown hg g) (Kd.S_base2 a.out)); have ao := mk_ (ho); (try clear a r); clear ho hb hg hat))
   go_roundg X
   case measure => have := U.out; omega
   case rel => exact ⟨(aA), (wrap64 (E - 1)), (ag), sm_, H', ⟨by have := U.out; omega⟩, ⟨Kd.S_below ao.out lt_⟩, ⟨IsS99.below c.out lt_⟩, ⟨keep_at HK.out⟩, ⟨below_at HB.out⟩⟩
  replace H := bm_ H; obtain ⟨⟨aU, G⟩, ax, H⟩ := H
  try dsimp only at H
  revert H; refine bi_ ?_ ?_ <;> rintro rfl H
  ·simp only [Option.some.injEq, Prod.mk.injEq] at H
   obtain ⟨rfl, rfl, rfl⟩ := H
   go_wp2_with (first | ((with_reducible refine gate_callee (f := 55) rfl ?_); refine gc_ 55 (some 29) Tryd.func55 #[.pointer (some ⟨g, 0, none⟩), .int .i64 y] ?_; (with_reducible refine mo_ (spec_l20Rd_odd.calls X g d i y false G l _ ?side1 ?side2 ax.out) ?_); (case side1 => exact IsS99.below c.out lt_); (case side2 => exact below_at HB.out); rintro a4 ⟨hi, hb, hk⟩; replace a := mk_ (Kd.S_mono (Kd.S_keep (IsS99.apartS (show IsS99 l _ g d i from IsS99.below c.out lt_) (Kd.S_below a.out lt_) (by decide)) hk (fun _ h => h.2)) (fun _ h => h.1)); replace HK := kc_ HK hk; replace HB := mk_ (hb); replace c := mk_ (hi); (try clear hb)))
   go_ret2
   exact ⟨_, er_, by (with_reducible repeat (first | apply Kd.S_alloc | apply Kd.S_drewN | apply Kd.S_drew)); exact a.out, IsS99.below c.out lt_, below_at HB.out, keep_at HK.out⟩
  have H' := mk_ H
  clear H
  go_wp2_with (first | ((with_reducible refine gate_callee (f := 55) rfl ?_); refine gc_ 55 (some 29) Tryd.func55 #[.pointer (some ⟨g, 0, none⟩), .int .i64 y] ?_; (with_reducible refine mo_ (spec_l20Rd_odd.calls X g d i y true G l _ ?side1 ?side2 ax.out) ?_); (case side1 => exact IsS99.below c.out lt_); (case side2 => exact below_at HB.out); rintro a5 ⟨hi, hb, hk⟩; replace a := mk_ (Kd.S_mono (Kd.S_keep (IsS99.apartS (show IsS99 l _ g d i from IsS99.below c.out lt_) (Kd.S_below a.out lt_) (by decide)) hk (fun _ h => h.2)) (fun _ h => h.1)); replace HK := kc_ HK hk; replace HB := mk_ (hb); replace c := mk_ (hi); (try clear hb)))
  (try simp only [Act.put, z0_, z1_, z2_])
  go_loopg [7] X (fun kq v7 w' => ∃ (j : List (S79)), Aside0 (spec_l20Story.l1 kq (wrap64 (1 + m)) j d G = some (Y, Z, r3)) ∧ Aside0 (kq ≤ X) ∧ Aside0 (Kd.S k79 79 w' w.heap.size (fun _ => True) v7 j) ∧ Aside0 (IsS99 l w' g d G) ∧ Aside0 (KeepBut w w' g none) ∧ Aside0 (Below l.heap.size l w'))
  case atStart => exact ⟨(n), H', ⟨Nat.le_refl _⟩, ⟨Kd.S_below a.out lt_⟩, ⟨IsS99.below c.out lt_⟩, ⟨keep_at HK.out⟩, ⟨below_at HB.out⟩⟩
  clear H'
  try clear af
  obtain ⟨j, HA, ay, a, c, HK, HB⟩ := hrel
  cases gk with
  | zero => exact absurd HA.out (by simp [spec_l20Story.l1])
  | succ k2 =>
   have H := HA.out
   clear HA
   simp only [spec_l20Story.l1] at H
   revert H; refine ti_ (fun J H => ?_) fun J H => ?_
   ·have ap : decide ((j.length : Int) < 7) = false := decide_eq_false J
    have aq : decide (j.length < 7) = false := decide_eq_false (by omega)
    clear J
    simp only [Option.some.injEq, Prod.mk.injEq] at H
    obtain ⟨rfl, rfl, rfl⟩ := H
    obtain ⟨aW, aX, aC⟩ := Kd.S_slice a.out
    subst aC
    go_wp2
    go_ret2
    exact ⟨_, er_, by (with_reducible repeat (first | apply Kd.S_alloc | apply Kd.S_drewN | apply Kd.S_drew)); exact a.out, IsS99.below c.out lt_, below_at HB.out, keep_at HK.out⟩
   have ap : decide ((j.length : Int) < 7) = true := decide_eq_true J
   have aq : decide (j.length < 7) = true := decide_eq_true (by omega)
   clear J
   obtain ⟨x, s⟩ : ∃ y_ : List (S82), y_ = (([(⟨0, 0⟩ : S82)] : List (S82))) := ⟨_, rfl⟩
   first | (replace H := bn_ s H; try dsimp only at H) | rw [← s] at H
   have W := mk_ s
   clear s
   revert H; refine g_ (mt_ fun ar H => ?_)
   obtain ⟨aD, t⟩ : ∃ y_ : List (S79), y_ = (j ++ [(⟨0, x⟩ : S79)]) := ⟨_, rfl⟩
   first | (replace H := bn_ t H; try dsimp only at H) | rw [← t] at H
   have au := mk_ t
   clear t
   have H' := mk_ H
   clear H
   obtain ⟨L, O, aE⟩ := Kd.S_slice a.out
   subst aE
   go_wp2_with (first | ((with_reducible refine gate_dst (N := 35) rfl ?_); refine Kd.R_lit k82 _ 82 ?hg (N := 35) ?hd (xs := ([(⟨0, 0⟩ : S82)] : List (S82))) (inner := [.int .i64 0, .int .i64 0]) (ok := fun _ => True) (okp := fun _ => True) ?hr ?hp (fun _ hk => hk) trivial (Below.refl _ _) (Nat.le_refl _) (by simp) ?_; (case hd => rfl); (case hg => rfl); (case hr => first | (go_simp; done) | (go_simp; rfl)); (case hp => exact (Reps.c2 (show Kd.M k82 _ _ _ (⟨0, 0⟩ : S82) [.int .i64 0, .int .i64 0] from (k82_mkM _ _ _ (⟨0, 0⟩ : S82) )) (Reps.none _ _))); intro aY a6 p hb ae B; clear ae B; (first | rw [← W.out] at p | (simp only [Int.reduceToNat] at p; rw [← W.out] at p)); replace a := mk_ (Kd.S_elder' (Kd.S_below a.out lt_) (Kd.R_base p) hb); have u := mk_ (Kd.R_lower p (keep_size (w := w) (g := g) (row := none) (keep_at HK.out))); replace c := mk_ (IsS99.below (IsS99.below c.out lt_) hb); replace HK := kb_ HK hb; replace HB := hs_ HB hb; clear hb p; obtain ⟨ak, al, aG⟩ := Kd.R_slice u.out; subst aG) | ((with_reducible refine gate_builtin (b := .append) (xs := #[.tmp 33, .tmp 37]) rfl ?_); at_builtin; refine Kd.S_append k79 w.heap.size rfl (.tmp 33) (.tmp 37) 23 79 (.agg #[(.int .i64 0), (.slice none 0 0)]) 32 rfl Tryd.underlying23 info79 rfl (by decide) (by omega) (.slice L j.length O) j (⟨0, x⟩ : S79) [.int .i64 0, .slice ak x.length al] (fun _ => True) (fun k_ => some k_ = (.slice ak x.length al : Value).ownBlock) rfl rfl ?aP (fun k_ hk_ => ((Kd.R_mono (ok' := fun k_ => ((fun _ => True)) k_ ∧ some k_ ≠ (.slice L j.length O : Value).ownBlock) (Kd.R_apart' (u.out) (Kd.S_typed a.out) (by decide)) (fun k_ hk => ⟨trivial, hk.2⟩))).1 k_ hk_.symm) ?aF ?aO (Below.refl _ _) ?aS ?aL ?_; (case aP => exact k79_mkM _ _ _ (⟨0, x⟩ : S79) (Kd.R_mono (Kd.R_tight rfl (Kd.R_mono (ok' := fun k_ => ((fun _ => True)) k_ ∧ some k_ ≠ (.slice L j.length O : Value).ownBlock) (Kd.R_apart' (u.out) (Kd.S_typed a.out) (by decide)) (fun k_ hk => ⟨trivial, hk.2⟩))) (fun _ h_ => h_))); (case aF => exact (fun _ _ => trivial)); (case aO => exact (Kd.S_below (Kd.S_mono a.out (fun k_ hk => ⟨trivial, fun e_ => hk.2 e_⟩)) lt_)); (case aS => exact (keep_size (w := w) (g := g) (row := none) (keep_at HK.out))); (case aL => have := ar.out; omega); intro aZ a7 ho hb hg hat; rw [← au.out] at ho; replace c := mk_ (IsS99.grown (IsS99.below c.out lt_) hg (IsS99.own_neS c.out a.out (by decide))); replace HB := mk_ (below_weaken (below_at HB.out) HL.out hb); replace HK := mk_ (KeepBut.trans (keep_at HK.out) (KeepBut.of_grown hg g) (Kd.S_base2 a.out)); have av := mk_ (ho); (try clear a u); clear ho hb hg hat))
   go_roundg k2
   case measure => have := U.out; have := ay.out; omega
   case rel => exact ⟨(aD), H', ⟨by have := U.out; have := ay.out; omega⟩, ⟨Kd.S_below av.out lt_⟩, ⟨IsS99.below c.out lt_⟩, ⟨keep_at HK.out⟩, ⟨below_at HB.out⟩⟩
def spec_TableOk.f (a0 : Int) (a1 : Int) : Option (Bool) := (spec_l1In.f a0 1 4).bind fun t359 => (if t359 = true then (if 0 ≤ a0 then ((spec_l1In.f a1 0 (wrap64 ((shl .i64 1 (shl .u64 1 a0)) - 1))).bind fun t360 => (some t360)) else (none)) else (some false))
theorem spec_TableOk.calls (c : Int) (q : Int) (r : Bool) (w : World) (h : spec_TableOk.f c q = some r) :
  Calls Tryd.prog 88 #[.int .i64 c, .int .i64 q] w fun e w' => e = .returned (.bool r) ∧ Drawn0 w w' := by
 unfold spec_TableOk.f at h
 have H := h
 clear h
 revert H; refine bd_ fun B m H => ?_
 try dsimp only at H
 revert H; refine bi_ ?_ ?_ <;> rintro rfl H
 ·obtain rfl := Option.some.inj H
  go_enter Tryd.func88, Tryd.ntmps88
  go_wp2_with (first | ((with_reducible refine gate_callee (f := 80) rfl ?_); refine gc_ 80 (some 6) Tryd.func80 #[.int .i64 c, .int .i64 1, .int .i64 4] ?_; (with_reducible refine (spec_l1In.calls c 1 4 false _ m.out).mono ?_); rintro e w' ⟨rfl, ⟨nd, rfl⟩⟩; refine ⟨_, rfl, ?_⟩))
  go_ret
  exact ⟨sm_, by repeat (first | exact Drawn0.refl _ | apply Drawn0.step)⟩
 revert H; refine g_ (et_ fun D E H => ?_)
 obtain ⟨a, b⟩ : ∃ j_ : Int, (shl .u64 1 c) = j_ := ⟨_, rfl⟩
 first | rw [b] at H | simp only [b] at H
 (try rw [b] at m)
 have i : 0 ≤ a := by rw [← b]; unfold shl; generalize (1 : Int) * 2 ^ min c.toNat (IntKind.bits .u64) = q_; simp [IntKind.wrap, IntKind.bits, IntKind.signed]; omega
 have s := eq_true i
 have t : decide (a < 0) = false := decide_eq_false (Int.not_lt.mpr i)
 clear i
 have n : (IntKind.u64.wrap (1 * 2 ^ min c.toNat 64)) = a := b
 have o : c ≤ 64 → (IntKind.u64.wrap (1 * 2 ^ c.toNat)) = a := shl_small b
 have u : (IntKind.u64.wrap (2 ^ min c.toNat 64)) = a := by have h_ := n; rw [Int.one_mul] at h_; exact h_
 have v : c ≤ 64 → (IntKind.u64.wrap (2 ^ c.toNat)) = a := fun hle_ => by have h_ := o hle_; rw [Int.one_mul] at h_; exact h_
 obtain ⟨g, d⟩ : ∃ j_ : Int, (shl .i64 1 (a)) = j_ := ⟨_, rfl⟩
 first | rw [d] at H | simp only [d] at H
 (try rw [d] at m)
 have j : (IntKind.i64.wrap (1 * 2 ^ min (a).toNat 64)) = g := d
 have k : (a) ≤ 64 → (IntKind.i64.wrap (1 * 2 ^ (a).toNat)) = g := shl_small d
 have x : (IntKind.i64.wrap (2 ^ min (a).toNat 64)) = g := by have h_ := j; rw [Int.one_mul] at h_; exact h_
 have y : (a) ≤ 64 → (IntKind.i64.wrap (2 ^ (a).toNat)) = g := fun hle_ => by have h_ := k hle_; rw [Int.one_mul] at h_; exact h_
 have z : (wrap64 (1 * 2 ^ min (a).toNat 64)) = g := (i64_w _).symm.trans j
 have A : (a) ≤ 64 → (wrap64 (1 * 2 ^ (a).toNat)) = g := fun h_ => (i64_w _).symm.trans (k h_)
 replace H := Option.bind_eq_some_iff.mp H
 obtain ⟨l, p, H⟩ := H
 replace H : (some l) = some r := H
 have G := mk_ p
 clear p
 obtain rfl := Option.some.inj H
 go_enter Tryd.func88, Tryd.ntmps88
 go_wp2_with (first | ((with_reducible refine gate_callee (f := 80) rfl ?_); refine gc_ 80 (some 6) Tryd.func80 #[.int .i64 c, .int .i64 1, .int .i64 4] ?_; (with_reducible refine (spec_l1In.calls c 1 4 true _ m.out).mono ?_); rintro e w' ⟨rfl, ⟨nd, rfl⟩⟩; refine ⟨_, rfl, ?_⟩) | (go_at_call 80; (with_reducible refine (spec_l1In.calls q 0 (wrap64 ((g) - 1)) l _ G.out).mono ?_); rintro e w' ⟨rfl, ⟨nd, rfl⟩⟩))
 go_ret
 exact ⟨by first | rfl | (simp; done) | (simp only [← b, ← d] <;> (first | rfl | simp)) | (simp [*]; done), by repeat (first | exact Drawn0.refl _ | apply Drawn0.step)⟩
mutual
def spec_WorldsIn.l0 : Nat → Int → Int → List Int → Int → Option (List Int)
 | 0, _, _, _, _ => none
 | k + 1, x0, x1, x5, x6 => (spec_TableOk.f x0 x1).bind fun t364 => (if t364 = true then (if 0 ≤ x0 then (spec_WorldsIn.j1 k x0 x1 x5 x6 (decide (x6 < (shl .i64 1 x0)))) else (none)) else (spec_WorldsIn.j1 k x0 x1 x5 x6 false))
def spec_WorldsIn.j1 : Nat → Int → Int → List Int → Int → Bool → Option (List Int)
 | 0, _, _, _, _, _ => none
 | k + 1, x0, x1, x5, x6, x16 => if x16 = true then (if 0 ≤ x6 then (if (Int.tmod (shr .i64 x1 x6) 2) = 1 then (if x5.length < 17592186044416 then (spec_WorldsIn.l0 k x0 x1 (x5 ++ [x6]) (wrap64 (x6 + 1))) else (none)) else (spec_WorldsIn.l0 k x0 x1 x5 (wrap64 (x6 + 1)))) else (none)) else (some x5)
end
def spec_WorldsIn.f (k : Nat) (a0 : Int) (a1 : Int) : Option (List Int) := spec_WorldsIn.l0 k a0 a1 (([] : List Int)) 0
theorem spec_WorldsIn.calls (k : Nat) (c : Int) (i : Int) (r : List Int) (w : World) (h : spec_WorldsIn.f k c i = some r) :
  Calls Tryd.prog 75 #[.int .i64 c, .int .i64 i] w fun e w' => ∃ L : Value, e = .returned (L) ∧ Kd.R (Kd.int .i64) 3 w' w.heap.size (fun _ => True) L r ∧ Below w.heap.size w w' := by
 have HB := mk_ (Below.refl w.heap.size w)
 have H : (spec_WorldsIn.l0 k c i (([] : List Int)) 0) = some r := h
 clear h
 obtain ⟨y, p⟩ : ∃ y_ : List Int, y_ = (([] : List Int)) := ⟨_, rfl⟩
 replace H : (spec_WorldsIn.l0 k c i y 0) = some r := by first | (rw [p]; exact H) | exact H
 have t := mk_ p
 clear p
 have H' := mk_ H
 clear H
 go_enter Tryd.func75, Tryd.ntmps75
 go_wp2_with (first | ((with_reducible refine gate_dst (N := 7) rfl ?_); refine Kd.R_lit (Kd.int .i64) _ 3 ?hg (N := 7) ?hd (xs := ([] : List Int)) (inner := []) (ok := fun _ => True) (okp := fun _ => True) ?hr ?hp (fun _ hk => hk) trivial (Below.refl _ _) (Nat.le_refl _) (by simp) ?_; (case hd => rfl); (case hg => rfl); (case hr => first | (go_simp; done) | (go_simp; rfl)); (case hp => exact (Reps.none _ _)); intro ag w3 s hb W B; clear W B; (first | rw [← t.out] at s | (simp only [Int.reduceToNat] at s; rw [← t.out] at s)); have D := mk_ (Kd.R_lower s (below_size (below_at HB.out))); replace HB := hs_ HB hb; clear hb s))
 go_loopg [5, 6] k (fun kq v5 v6 w' => ∃ (d : List Int) (a : Int), v6 = .int .i64 a ∧ Aside0 (spec_WorldsIn.l0 kq c i d a = some r) ∧ Aside0 (kq ≤ k) ∧ Aside0 (Kd.R (Kd.int .i64) 3 w' w.heap.size (fun _ => True) v5 d) ∧ Aside0 (Below w.heap.size w w'))
 case atStart => exact ⟨(y), (0), sm_, H', ⟨Nat.le_refl _⟩, ⟨Kd.R_below D.out lt_⟩, ⟨below_at HB.out⟩⟩
 clear H'
 obtain ⟨d, a, rfl, HA, o, g, HB⟩ := hrel
 cases gk with
 | zero => exact absurd HA.out (by simp [spec_WorldsIn.l0])
 | succ k1 =>
  have H := HA.out
  clear HA
  simp only [spec_WorldsIn.l0] at H
  have z := mk_ H
  clear H
  go_upto_region 3 with (fail)
  go_cut [16] (fun X wc => ∃ (kq : Nat) (q : Bool), X = .bool q ∧ Aside0 (spec_WorldsIn.j1 kq c i d a q = some r) ∧ Aside0 (kq ≤ k1) ∧ Aside0 (Kd.R (Kd.int .i64) 3 wc w.heap.size (fun _ => True) u5 d) ∧ Aside0 (Below w.heap.size w wc))
  case first =>
   have H := z.out
   clear z
   revert H; refine bd_ fun ak O H => ?_
   try dsimp only at H
   revert H; refine bi_ ?_ ?_ <;> rintro rfl H
   ·have H' := mk_ H
    clear H
    go_wp2_with (first | ((with_reducible refine gate_callee (f := 88) rfl ?_); refine gc_ 88 (some 10) Tryd.func88 #[.int .i64 c, .int .i64 i] ?_; (with_reducible refine (spec_TableOk.calls c i false _ O.out).mono ?_); rintro e w' ⟨rfl, ⟨nd, rfl⟩⟩; refine ⟨_, rfl, ?_⟩))
    go_meet
    case rel => exact ⟨_, (false), sm_, H', ⟨by have := o.out; first | omega | exact Nat.le_refl _⟩, ⟨Kd.R_below g.out lt_⟩, ⟨below_at HB.out⟩⟩
   revert H; refine g_ (et_ fun P T H => ?_)
   obtain ⟨n, j⟩ : ∃ j_ : Int, (shl .i64 1 c) = j_ := ⟨_, rfl⟩
   first | rw [j] at H | simp only [j] at H
   (try rw [j] at O)
   have u : (IntKind.i64.wrap (1 * 2 ^ min c.toNat 64)) = n := j
   have v : c ≤ 64 → (IntKind.i64.wrap (1 * 2 ^ c.toNat)) = n := shl_small j
   have aa : (IntKind.i64.wrap (2 ^ min c.toNat 64)) = n := by have h_ := u; rw [Int.one_mul] at h_; exact h_
   have ab : c ≤ 64 → (IntKind.i64.wrap (2 ^ c.toNat)) = n := fun hle_ => by have h_ := v hle_; rw [Int.one_mul] at h_; exact h_
   have ac : (wrap64 (1 * 2 ^ min c.toNat 64)) = n := (i64_w _).symm.trans u
   have ad : c ≤ 64 → (wrap64 (1 * 2 ^ c.toNat)) = n := fun h_ => (i64_w _).symm.trans (v h_)
   have H' := mk_ H
   clear H
   go_wp2_with (first | ((with_reducible refine gate_callee (f := 88) rfl ?_); refine gc_ 88 (some 10) Tryd.func88 #[.int .i64 c, .int .i64 i] ?_; (with_reducible refine (spec_TableOk.calls c i true _ O.out).mono ?_); rintro e w' ⟨rfl, ⟨nd, rfl⟩⟩; refine ⟨_, rfl, ?_⟩))
   go_meet
   case rel => exact ⟨_, (decide (a < (n))), (by first | rfl | (simp; done) | (simp only [← j] <;> (first | rfl | simp)) | (simp [*]; done)), H', ⟨by have := o.out; first | omega | exact Nat.le_refl _⟩, ⟨Kd.R_below g.out lt_⟩, ⟨below_at HB.out⟩⟩
  clear z
  try clear P
  try clear T
  obtain ⟨kq, q, rfl, HA, x, g, HB⟩ := hcut
  cases kq with
  | zero => exact absurd HA.out (by simp [spec_WorldsIn.j1])
  | succ M =>
   have H := HA.out
   clear HA
   simp only [spec_WorldsIn.j1] at H
   revert H; refine bi_ ?_ ?_ <;> rintro rfl H
   ·obtain rfl := Option.some.inj H
    go_wp2
    go_ret
    exact ⟨_, er_, rl_ g.out, below_at HB.out⟩
   revert H; refine g_ (et_ fun ae af H => ?_)
   obtain ⟨A, l⟩ : ∃ j_ : Int, (shr .i64 i a) = j_ := ⟨_, rfl⟩
   first | rw [l] at H | simp only [l] at H
   have Y : (i / 2 ^ min a.toNat 64) = A := l
   have Z : a ≤ 64 → (i / 2 ^ a.toNat) = A := shr_small l
   revert H; refine ti_ (qfk_ fun am E G H => ?_) (qt_ fun E G H => ?_)
   ·have H' := mk_ H
    clear H
    go_wp2
    go_roundg M
    case measure => have := o.out; have := x.out; omega
    case rel => exact ⟨(d), (wrap64 (a + 1)), sm_, H', ⟨by have := o.out; have := x.out; omega⟩, ⟨Kd.R_below g.out lt_⟩, ⟨below_at HB.out⟩⟩
   revert H; refine g_ (mt_ fun I H => ?_)
   obtain ⟨U, m⟩ : ∃ y_ : List Int, y_ = (d ++ [a]) := ⟨_, rfl⟩
   first | (replace H := bn_ m H; try dsimp only at H) | rw [← m] at H
   have J := mk_ m
   clear m
   have H' := mk_ H
   clear H
   go_wp2_with (first | ((with_reducible refine gate_builtin (b := .append) (xs := #[.tmp 24, .tmp 26]) rfl ?_); at_builtin; refine Kd.R_append (Kd.int .i64) (w0 := w) w.heap.size rfl (.tmp 24) (.tmp 26) 103 3 (.int .i64 0) 8 rfl Tryd.underlying103 info3 rfl (by decide) (by omega) u5 d a [.int .i64 a] (fun _ => True) (fun _ => False) rfl rfl ?aP (fun _ hk => hk.elim) ?aF ?aO ?aB ?aS ?aL ?_; (case aP => exact rfl); (case aB => exact (below_at HB.out)); (case aF => exact (fun _ _ => trivial)); (case aO => exact (Kd.R_below g.out lt_)); (case aS => exact (below_size (below_at HB.out))); (case aL => have := I.out; omega); intro al an ho hb hg hat; rw [← J.out] at ho; replace HB := mk_ (hb); have K := mk_ (ho); (try clear g); clear ho hb hg hat))
   go_roundg M
   case measure => have := o.out; have := x.out; omega
   case rel => exact ⟨(U), (wrap64 (a + 1)), sm_, H', ⟨by have := o.out; have := x.out; omega⟩, ⟨Kd.R_below K.out lt_⟩, ⟨below_at HB.out⟩⟩
def spec_l4Story.l0 : Nat → Int → List (S79) → Int → Int → Option (Int)
 | 0, _, _, _, _ => none
 | k + 1, x0, x1, x5, x6 => if x6 < (x1.length : Int) then (if 0 ≤ x6 then ((spec_l4Table.f k x0 ((rd_T79 x1 x6).f0) ((rd_T79 x1 x6).f1)).bind fun t369 => (spec_l4Story.l0 k x0 x1 (Go.bits .and .i64 x5 t369) (wrap64 (x6 + 1)))) else (none)) else (some x5)
def spec_l4Story.f (k : Nat) (a0 : Int) (l1 : List (S79)) : Option (Int) := if 0 ≤ a0 then (spec_l4Story.l0 k a0 l1 (wrap64 ((shl .i64 1 (shl .u64 1 a0)) - 1)) 0) else (none)
theorem spec_l4Story.calls (k : Nat) (c : Int) (M : Option Addr) (G : Nat) (l1 : List (S79)) (r : Int) (w : World) (B : Kd.C k79 w M l1.length l1) (D : l1.length ≤ G) (h : spec_l4Story.f k c l1 = some r) :
  Calls Tryd.prog 89 #[.int .i64 c, .slice M l1.length G] w fun e w' => e = .returned (.int .i64 r) ∧ Below w.heap.size w w' := by
 have ad := Tryd.underlying79
 have O := mk_ B
 have ak := mk_ D
 clear B D
 have HB := mk_ (Below.refl w.heap.size w)
 have H : (if 0 ≤ c then (spec_l4Story.l0 k c l1 (wrap64 ((shl .i64 1 (shl .u64 1 c)) - 1)) 0) else (none)) = some r := h
 clear h
 revert H; refine g_ (et_ fun I J H => ?_)
 obtain ⟨a, d⟩ : ∃ j_ : Int, (shl .u64 1 c) = j_ := ⟨_, rfl⟩
 first | rw [d] at H | simp only [d] at H
 have o : 0 ≤ a := by rw [← d]; unfold shl; generalize (1 : Int) * 2 ^ min c.toNat (IntKind.bits .u64) = q_; simp [IntKind.wrap, IntKind.bits, IntKind.signed]; omega
 have T := eq_true o
 have U : decide (a < 0) = false := decide_eq_false (Int.not_lt.mpr o)
 clear o
 have z : (IntKind.u64.wrap (1 * 2 ^ min c.toNat 64)) = a := d
 have A : c ≤ 64 → (IntKind.u64.wrap (1 * 2 ^ c.toNat)) = a := shl_small d
 have W : (IntKind.u64.wrap (2 ^ min c.toNat 64)) = a := by have h_ := z; rw [Int.one_mul] at h_; exact h_
 have X : c ≤ 64 → (IntKind.u64.wrap (2 ^ c.toNat)) = a := fun hle_ => by have h_ := A hle_; rw [Int.one_mul] at h_; exact h_
 obtain ⟨i, g⟩ : ∃ j_ : Int, (shl .i64 1 (a)) = j_ := ⟨_, rfl⟩
 first | rw [g] at H | simp only [g] at H
 have q : (IntKind.i64.wrap (1 * 2 ^ min (a).toNat 64)) = i := g
 have s : (a) ≤ 64 → (IntKind.i64.wrap (1 * 2 ^ (a).toNat)) = i := shl_small g
 have Y : (IntKind.i64.wrap (2 ^ min (a).toNat 64)) = i := by have h_ := q; rw [Int.one_mul] at h_; exact h_
 have Z : (a) ≤ 64 → (IntKind.i64.wrap (2 ^ (a).toNat)) = i := fun hle_ => by have h_ := s hle_; rw [Int.one_mul] at h_; exact h_
 have aa : (wrap64 (1 * 2 ^ min (a).toNat 64)) = i := (i64_w _).symm.trans q
 have ab : (a) ≤ 64 → (wrap64 (1 * 2 ^ (a).toNat)) = i := fun h_ => (i64_w _).symm.trans (s h_)
 have H' := mk_ H
 clear H
 go_enter Tryd.func89, Tryd.ntmps89
 go_wp2
 go_loopg [5, 6] k (fun kq v5 v6 w' => ∃ (p : Int) (b : Int), v5 = .int .i64 p ∧ v6 = .int .i64 b ∧ Aside0 (spec_l4Story.l0 kq c l1 p b = some r) ∧ Aside0 (kq ≤ k) ∧ Aside0 (Below w.heap.size w w'))
 case atStart => exact ⟨(wrap64 ((i) - 1)), (0), (by first | rfl | (simp; done) | (simp only [← g] <;> (first | rfl | simp)) | (simp [*]; done)), sm_, H', ⟨Nat.le_refl _⟩, ⟨below_at HB.out⟩⟩
 clear H'
 try clear G
 try clear I
 try clear J
 obtain ⟨p, b, rfl, rfl, HA, E, HB⟩ := hrel
 cases gk with
 | zero => exact absurd HA.out (by simp [spec_l4Story.l0])
 | succ P =>
  have H := HA.out
  clear HA
  simp only [spec_l4Story.l0] at H
  revert H; refine ti_ (df_ fun K H => ?_) (dt_ fun K H => ?_)
  ·obtain rfl := Option.some.inj H
   go_wp2
   go_ret
   exact ⟨by first | rfl | (simp [errW_none, errW_some] <;> rfl) | (simp only [← d, ← g]; first | rfl | (simp [errW_none, errW_some] <;> rfl)) | (simp [*, errW_none, errW_some] <;> rfl), below_at HB.out⟩
  revert H; refine g_ (dt_ fun ag => bd_ fun v A8 H => ?_)
  try dsimp only at H
  have H' := mk_ H
  clear H
  obtain ⟨ac, x, y, L, j, l, m, n⟩ := at_T79 O.out b oa_ oa_
  cases L
  replace j := cel HB.out j
  replace l := cel HB.out l
  have t := mk_ n
  have u := mk_ m
  clear n m
  obtain ⟨ai, aj⟩ := pq_ (b : Int) (l1.length : Int)
  go_wp2_with (first | ((with_reducible refine gate_callee (f := 93) rfl ?_); refine gc_ 93 (some 23) Tryd.func93 #[.int .i64 c, .agg #[.int .i64 ((rd_T79 l1 b).f0), .slice x ((rd_T79 l1 b).f1).length y]] ?_; (with_reducible refine mo_ (spec_l4Table.calls P c ((rd_T79 l1 b).f0) _ _ ((rd_T79 l1 b).f1) v _ ?side1 ?side2 A8.out) ?_); (case side1 => exact Kd.C_below (Kd.C_below t.out HB.out) lt_); (case side2 => exact u.out); intro w9 hb; replace HB := hs_ HB hb; (try clear hb)))
  go_roundg P
  case measure => have := E.out; omega
  case rel => exact ⟨(Go.bits .and .i64 p v), (wrap64 (b + 1)), sm_, sm_, H', ⟨by have := E.out; omega⟩, ⟨below_at HB.out⟩⟩
end Go.Proofs.YtcaogllnbpmcgaaDoor.P

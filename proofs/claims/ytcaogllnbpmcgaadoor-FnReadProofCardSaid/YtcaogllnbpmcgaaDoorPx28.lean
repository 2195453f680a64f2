/- Go's functions come to just the answers of the Lean functions told here. -/
import Derived.Test.YtcaogllnbpmcgaaDoorPx20
import Derived.Test.YtcaogllnbpmcgaaDoorPx27
set_option maxHeartbeats 8000000
set_option maxRecDepth 100000
namespace Go.Proofs.YtcaogllnbpmcgaaDoor.P
open Go.RowKit Go.Proofs.YtcaogllnbpmcgaaDoorW.PrintWords Go.Proofs.YtcaogllnbpmcgaaDoorW.PrintLast Go.Proofs.YtcaogllnbpmcgaaDoorW.PrintMore
attribute [local go_sem] max2_int min2_int max_two min_two max_three min_three max_four min_four
set_option linter.unusedVariables false
set_option linter.unusedSimpArgs false
def spec_StoryTable.f (k : Nat) (a0 : Int) (l1 : List (S79)) : Option (Int) := (spec_StoryOk.f k a0 l1).bind fun t370 => (if t370 = true then ((spec_l4Story.f k a0 l1).bind fun t371 => (some t371)) else (some (-1)))
theorem spec_StoryTable.calls (k : Nat) (a : Int) (b : Option Addr) (c : Nat) (l1 : List (S79)) (r : Int) (w : World) (j : Kd.C k79 w b l1.length l1) (l : l1.length ≤ c) (h : spec_StoryTable.f k a l1 = some r) :
  Calls Tryd.prog 76 #[.int .i64 a, .slice b l1.length c] w fun e w' => e = .returned (.int .i64 r) ∧ Below w.heap.size w w' := by
 have d := mk_ j
 have g := mk_ l
 clear j l
 have HB := mk_ (Below.refl w.heap.size w)
 unfold spec_StoryTable.f at h
 have H := h
 clear h
 revert H; refine bd_ fun o n H => ?_
 try dsimp only at H
 revert H; refine bi_ ?_ ?_ <;> rintro rfl H
 ·obtain rfl := Option.some.inj H
  go_enter Tryd.func76, Tryd.ntmps76
  go_wp2_with (first | ((with_reducible refine gate_callee (f := 57) rfl ?_); refine gc_ 57 (some 7) Tryd.func57 #[.int .i64 a, .slice b l1.length c] ?_; (with_reducible refine mo_ (spec_StoryOk.calls k a _ _ l1 false _ ?side1 ?side2 n.out) ?_); (case side1 => exact Kd.C_below d.out lt_); (case side2 => exact g.out); intro q hb; replace HB := hs_ HB hb; (try clear hb)))
  go_ret
  exact ⟨er_, below_at HB.out⟩
 replace H := Option.bind_eq_some_iff.mp H
 obtain ⟨i, m, H⟩ := H
 replace H : (some i) = some r := H
 have p := mk_ m
 clear m
 obtain rfl := Option.some.inj H
 go_enter Tryd.func76, Tryd.ntmps76
 go_wp2_with (first | ((with_reducible refine gate_callee (f := 57) rfl ?_); refine gc_ 57 (some 7) Tryd.func57 #[.int .i64 a, .slice b l1.length c] ?_; (with_reducible refine mo_ (spec_StoryOk.calls k a _ _ l1 true _ ?side1 ?side2 n.out) ?_); (case side1 => exact Kd.C_below d.out lt_); (case side2 => exact g.out); intro s hb; replace HB := hs_ HB hb; (try clear hb)) | ((with_reducible refine gate_callee (f := 89) rfl ?_); refine gc_ 89 (some 11) Tryd.func89 #[.int .i64 a, .slice b l1.length c] ?_; (with_reducible refine mo_ (spec_l4Story.calls k a _ _ l1 i _ ?side1 ?side2 p.out) ?_); (case side1 => exact Kd.C_below (Kd.C_below d.out HB.out) lt_); (case side2 => exact g.out); intro t hb; replace HB := hs_ HB hb; (try clear hb)))
 go_ret
 exact ⟨er_, below_at HB.out⟩
def spec_l20Proved.j0 : Nat → Int → List (S79) → List (S82) → List Int → Bool → List Int → Int → Option (Int × (List (S79)) × (List (S82)) × Int)
 | 0, _, _, _, _, _, _, _ => none
 | k + 1, x5, x6, x7, x8, x30, x1000, x1001 => if x30 = true then ((spec_l20Rd_pick.f k x1000 x1001 x5).bind fun bt387 => ((some (([(⟨0, bt387.1⟩ : S82)] : List (S82)) : List (S82))).bind fun y389 => (if 0 < (x8.length : Int) then (if 0 ≤ bt387.1 then (if (Int.tmod (shr .i64 (rd x8 0) bt387.1) 2) = 0 then (if y389.length < 8796093022208 then (some (x5, x6, (y389 ++ [(⟨2, 0⟩ : S82)]), bt387.2)) else (none)) else (some (x5, x6, y389, bt387.2))) else (none)) else (none)))) else (some (x5, x6, x7, x1001))
def spec_l20Proved.f (k : Nat) (s0_0 : List Int) (s0_1 : Int) : Option (Int × (List (S79)) × (List (S82)) × Int) := (spec_l20Story.f k s0_0 s0_1 14).bind fun bt372 => ((spec_l20Term.f k s0_0 bt372.2.2 bt372.1 14).bind fun bt377 => ((spec_StoryTable.f k bt372.1 bt372.2.1).bind fun t381 => ((spec_WorldsIn.f k bt372.1 t381).bind fun t382 => (if (t382.length : Int) > 0 then ((spec_l20Rd_pick.f k s0_0 bt377.2 2).bind fun bt385 => (spec_l20Proved.j0 k bt372.1 bt372.2.1 bt377.1 t382 (bt385.1 == 0) s0_0 bt385.2)) else (spec_l20Proved.j0 k bt372.1 bt372.2.1 bt377.1 t382 false s0_0 bt377.2)))))
theorem spec_l20Proved.calls (k : Nat) (g : Nat) (c : List Int) (U : Int) (r1 : Int) (r2 : List (S79)) (r3 : List (S82)) (r4 : Int) (q w : World) (hI : IsS99 q w g c U) (hB : Below q.heap.size q w) (h : spec_l20Proved.f k c U = some (r1, r2, r3, r4)) :
  Calls Tryd.prog 53 #[.pointer (some ⟨g, 0, none⟩)] w fun e w' => ∃ au ab : Value, e = .returned (.tuple #[.int .i64 r1, au, ab]) ∧ Kd.S k79 79 w' w.heap.size (fun k_ => some k_ ≠ (ab : Value).ownBlock) au r2 ∧ Kd.R k82 82 w' w.heap.size (fun _ => True) ab r3 ∧ IsS99 q w' g c r4 ∧ Below q.heap.size q w' ∧ KeepBut w w' g none := by
 have aW := Tryd.underlying82
 have a := mk_ hI
 have HK := mk_ (KeepBut.refl w g none)
 have HL := mk_ hB.size
 clear hI
 have bc := mk_ hB.size
 have HB := mk_ hB
 clear hB
 unfold spec_l20Proved.f at h
 have H := h
 clear h
 replace H := bm_ H; obtain ⟨⟨o, D, W⟩, A2, H⟩ := H
 try dsimp only at H
 replace H := bm_ H; obtain ⟨⟨X, E⟩, A3, H⟩ := H
 try dsimp only at H
 revert H; refine bd_ fun Y A4 H => ?_
 try dsimp only at H
 revert H; refine bd_ fun l A5 H => ?_
 try dsimp only at H
 have ac := mk_ H
 clear H
 go_enter Tryd.func53, Tryd.ntmps53
 go_upto_region 4 with (first | ((with_reducible refine gate_callee (f := 73) rfl ?_); refine gc_ 73 (some 12) Tryd.func73 #[.pointer (some ⟨g, 0, none⟩), .int .i64 14] ?_; (with_reducible refine (spec_l20Story.calls k g c U 14 o D W q _ ?side1 ?side2 A2.out).mono ?_); (case side1 => exact IsS99.below a.out lt_); (case side2 => exact below_at HB.out); rintro e w7 ⟨a1, rfl, B, hi, hb, hk⟩; refine ⟨_, rfl, ?_⟩; have j := mk_ (Kd.S_lower B (keep_size (w := w) (g := g) (row := none) (keep_at HK.out))); replace HK := kc_ HK hk; replace HB := mk_ (hb); replace a := mk_ (hi); (try clear hb); (try clear B)) | ((with_reducible refine gate_callee (f := 74) rfl ?_); refine gc_ 74 (some 17) Tryd.func74 #[.pointer (some ⟨g, 0, none⟩), .int .i64 o, .int .i64 14] ?_; (with_reducible refine (spec_l20Term.calls k g c W o 14 X E q _ ?side1 ?side2 A3.out).mono ?_); (case side1 => exact IsS99.below a.out lt_); (case side2 => exact below_at HB.out); rintro e w8 ⟨O, rfl, B, hi, hb, hk⟩; refine ⟨_, rfl, ?_⟩; replace j := mk_ (Kd.S_mono (Kd.S_told (Kd.S_oldK (IsS99.apartS (show IsS99 q _ g c W from IsS99.below a.out lt_) (Kd.S_below j.out lt_) (by decide)) hk) (Kd.R_base B)) (fun _ h_ => h_.1)); have r := mk_ (Kd.R_lower B (keep_size (w := w) (g := g) (row := none) (keep_at HK.out))); replace HK := kc_ HK hk; replace HB := mk_ (hb); replace a := mk_ (hi); (try clear hb); (try clear B); obtain ⟨av, aw, aJ⟩ := Kd.S_slice j.out; subst aJ) | ((with_reducible refine gate_callee (f := 76) rfl ?_); refine gc_ 76 (some 21) Tryd.func76 #[.int .i64 o, .slice av D.length aw] ?_; (with_reducible refine mo_ (spec_StoryTable.calls k o _ _ D Y _ ?side1 ?side2 A4.out) ?_); (case side1 => exact Kd.C_below (Kd.S_reads' j.out).2.2 lt_); (case side2 => exact (Kd.S_reads' j.out).2.1); intro be hb; replace j := mk_ (Kd.S_below (Kd.S_below j.out lt_) hb); replace r := mk_ (Kd.R_below (Kd.R_below r.out lt_) hb); replace a := mk_ (IsS99.below (IsS99.below a.out lt_) hb); replace HK := kb_ HK hb; replace HB := hs_ HB hb; (try clear hb)) | ((with_reducible refine gate_callee (f := 75) rfl ?_); refine gc_ 75 (some 22) Tryd.func75 #[.int .i64 o, .int .i64 Y] ?_; (with_reducible refine (spec_WorldsIn.calls k o Y l _ A5.out).mono ?_); rintro e bf ⟨aD, rfl, B, hb⟩; refine ⟨_, rfl, ?_⟩; replace j := mk_ (Kd.S_below (Kd.S_below j.out lt_) hb); replace r := mk_ (Kd.R_below (Kd.R_below r.out lt_) hb); have u := mk_ (Kd.R_lower B (keep_size (w := w) (g := g) (row := none) (keep_at HK.out))); replace a := mk_ (IsS99.below (IsS99.below a.out lt_) hb); replace HK := kb_ HK hb; replace HB := hs_ HB hb; (try clear hb); (try clear B)))
 (try simp only [Act.put, z0_, z1_, z2_])
 go_cut [30] (fun aK wc => ∃ (kq : Nat) (P : Bool) (d : Int), aK = .bool P ∧ Aside0 (spec_l20Proved.j0 kq o D X l P c d = some (r1, r2, r3, r4)) ∧ Aside0 (kq ≤ k) ∧ Aside0 (Kd.S k79 79 wc w.heap.size (fun k_ => some k_ ≠ (O : Value).ownBlock) (.slice av D.length aw) D) ∧ Aside0 (Kd.R k82 82 wc w.heap.size (fun _ => True) O X) ∧ Aside0 (Kd.R (Kd.int .i64) 3 wc w.heap.size (fun _ => True) aD l) ∧ Aside0 (IsS99 q wc g c d) ∧ Aside0 (KeepBut w wc g none) ∧ Aside0 (Below q.heap.size q wc))
 case first =>
  have H := ac.out
  clear ac
  revert H; refine ti_ (fun L H => ?_) fun L H => ?_
  ·have v : decide (0 < (l.length : Int)) = false := decide_eq_false L
   have aa : decide (0 < l.length) = false := decide_eq_false (by omega)
   clear L
   (first | rw [v] | (simp only [i64_w, i32_w]; rw [v]) | skip)
   have H' := mk_ H
   clear H
   obtain ⟨a2, a3, aE⟩ := Kd.R_slice u.out
   subst aE
   go_wp2
   go_meet
   case rel => exact ⟨_, (false), (E), sm_, H', ⟨by first | omega | exact Nat.le_refl _⟩, ⟨Kd.S_below (Kd.S_mono j.out (fun _ hk => hk.2)) lt_⟩, ⟨Kd.R_below r.out lt_⟩, ⟨Kd.R_below u.out lt_⟩, ⟨IsS99.below a.out lt_⟩, ⟨keep_at HK.out⟩, ⟨below_at HB.out⟩⟩
  have v : decide (0 < (l.length : Int)) = true := decide_eq_true L
  have aa : decide (0 < l.length) = true := decide_eq_true (by omega)
  clear L
  (first | rw [v] | (simp only [i64_w, i32_w]; rw [v]) | skip)
  replace H := bm_ H; obtain ⟨⟨ad, ae⟩, aM, H⟩ := H
  try dsimp only at H
  have H' := mk_ H
  clear H
  obtain ⟨a4, a5, aG⟩ := Kd.R_slice u.out
  subst aG
  go_wp2_with (first | (go_at_call 52; (with_reducible refine (spec_l20Rd_pick.calls k g c E 2 ad ae q _ ?side1 ?side2 aM.out).mono ?_); (case side1 => exact IsS99.below a.out lt_); (case side2 => exact below_at HB.out); rintro e bg ⟨rfl, hi, hb, hk⟩; replace j := mk_ (Kd.S_mono (Kd.S_keep (IsS99.apartS (show IsS99 q _ g c E from IsS99.below a.out lt_) (Kd.S_below j.out lt_) (by decide)) hk (fun _ h => h.2)) (fun _ h => h.1)); replace r := mk_ (Kd.R_mono (Kd.R_keep (IsS99.apart (show IsS99 q _ g c E from IsS99.below a.out lt_) (Kd.R_below r.out lt_) (by decide)) hk (fun _ h => h.2)) (fun _ h => h.1)); replace u := mk_ (Kd.R_mono (Kd.R_keep (IsS99.apart (show IsS99 q _ g c E from IsS99.below a.out lt_) (Kd.R_below u.out lt_) (by decide)) hk (fun _ h => h.2)) (fun _ h => h.1)); replace HK := kc_ HK hk; replace HB := mk_ (hb); replace a := mk_ (hi); (try clear hb)))
  go_meet
  case rel => exact ⟨_, ((ad == 0)), (ae), sm_, H', ⟨by first | omega | exact Nat.le_refl _⟩, ⟨Kd.S_below (Kd.S_mono j.out (fun _ hk => hk.2)) lt_⟩, ⟨Kd.R_below r.out lt_⟩, ⟨Kd.R_below u.out lt_⟩, ⟨IsS99.below a.out lt_⟩, ⟨keep_at HK.out⟩, ⟨below_at HB.out⟩⟩
 clear ac
 try clear L
 try clear v
 try clear aa
 obtain ⟨kq, P, d, rfl, HA, bh, m, p, n, a, HK, HB⟩ := hcut
 cases kq with
 | zero => exact absurd HA.out (by simp [spec_l20Proved.j0])
 | succ ax =>
  have H := HA.out
  clear HA
  simp only [spec_l20Proved.j0] at H
  revert H; refine bi_ ?_ ?_ <;> rintro rfl H
  ·simp only [Option.some.injEq, Prod.mk.injEq] at H
   obtain ⟨rfl, rfl, rfl, rfl⟩ := H
   go_wp2
   go_ret3
   exact ⟨_, _, er_, by (with_reducible repeat (first | apply Kd.S_alloc | apply Kd.S_drewN | apply Kd.S_drew)); exact m.out, rl_ p.out, IsS99.below a.out lt_, below_at HB.out, keep_at HK.out⟩
  replace H := bm_ H; obtain ⟨⟨i, af⟩, ag, H⟩ := H
  try dsimp only at H
  obtain ⟨ah, I⟩ : ∃ y_ : List (S82), y_ = (([(⟨0, i⟩ : S82)] : List (S82))) := ⟨_, rfl⟩
  first | (replace H := bn_ I H; try dsimp only at H) | rw [← I] at H
  have J := mk_ I
  clear I
  revert H; refine g_ (fun ay H => ?_)
  have aR : decide (0 < (l.length : Int)) = true := decide_eq_true ay
  have aT : decide (0 < l.length) = true := decide_eq_true (by omega)
  clear ay
  revert H; refine g_ (et_ fun aU aV H => ?_)
  obtain ⟨ai, t⟩ : ∃ j_ : Int, (shr .i64 (rd l 0) i) = j_ := ⟨_, rfl⟩
  first | rw [t] at H | simp only [t] at H
  (try rw [t] at ag)
  have aN : ((rd l 0) / 2 ^ min i.toNat 64) = ai := t
  have aQ : i ≤ 64 → ((rd l 0) / 2 ^ i.toNat) = ai := shr_small t
  revert H; refine ti_ (qfk_ fun bj al am H => ?_) (qt_ fun al am H => ?_)
  ·simp only [Option.some.injEq, Prod.mk.injEq] at H
   obtain ⟨rfl, rfl, rfl, rfl⟩ := H
   go_wp2_with (first | ((with_reducible refine gate_callee (f := 52) rfl ?_); refine gc_ 52 (some 33) Tryd.func52 #[.pointer (some ⟨g, 0, none⟩), .int .i64 o] ?_; (with_reducible refine mo_ (spec_l20Rd_pick.calls ax g c d o i af q _ ?side1 ?side2 ag.out) ?_); (case side1 => exact IsS99.below a.out lt_); (case side2 => exact below_at HB.out); rintro bk ⟨hi, hb, hk⟩; replace m := mk_ (Kd.S_mono (Kd.S_keep (IsS99.apartS (show IsS99 q _ g c d from IsS99.below a.out lt_) (Kd.S_below m.out lt_) (by decide)) hk (fun _ h => h.2)) (fun _ h => h.1)); replace p := mk_ (Kd.R_mono (Kd.R_keep (IsS99.apart (show IsS99 q _ g c d from IsS99.below a.out lt_) (Kd.R_below p.out lt_) (by decide)) hk (fun _ h => h.2)) (fun _ h => h.1)); replace n := mk_ (Kd.R_mono (Kd.R_keep (IsS99.apart (show IsS99 q _ g c d from IsS99.below a.out lt_) (Kd.R_below n.out lt_) (by decide)) hk (fun _ h => h.2)) (fun _ h => h.1)); replace HK := kc_ HK hk; replace HB := mk_ (hb); replace a := mk_ (hi); (try clear hb)) | ((with_reducible refine gate_dst (N := 36) rfl ?_); refine Kd.R_lit k82 _ 82 ?hg (N := 36) ?hd (xs := ([(⟨0, i⟩ : S82)] : List (S82))) (inner := [.int .i64 0, .int .i64 i]) (ok := fun _ => True) (okp := fun _ => True) ?hr ?hp (fun _ hk => hk) trivial (Below.refl _ _) (Nat.le_refl _) (by simp) ?_; (case hd => rfl); (case hg => rfl); (case hr => first | (go_simp; done) | (go_simp; rfl)); (case hp => exact (Reps.c2 (show Kd.M k82 _ _ _ (⟨0, i⟩ : S82) [.int .i64 0, .int .i64 i] from (k82_mkM _ _ _ (⟨0, i⟩ : S82) )) (Reps.none _ _))); intro aj bn G hb ak T; clear ak T; (first | rw [← J.out] at G | (simp only [Int.reduceToNat] at G; rw [← J.out] at G)); replace m := mk_ (Kd.S_elder' (Kd.S_below m.out lt_) (Kd.R_base G) hb); replace n := mk_ (Kd.R_below (Kd.R_below n.out lt_) hb); have x := mk_ (Kd.R_lower (Kd.R_new' G (Kd.R_lt (Kd.R_below p.out lt_))) (keep_size (w := w) (g := g) (row := none) (keep_at HK.out))); replace a := mk_ (IsS99.below (IsS99.below a.out lt_) hb); replace HK := kb_ HK hb; replace HB := hs_ HB hb; (try clear p); clear hb G; obtain ⟨a6, a7, aH⟩ := Kd.R_slice n.out; subst aH; have y : 0 ≤ (0 : Int) := (by omega); have z : 0 < (l.length : Int) := oa_; obtain ⟨an, Z, s⟩ := Kd.at_int (Kd.R_reads' n.out).2.2 0 y z; cases Z; have ao : (0 < l.length) = True := eq_true (by omega); (try rw [show ((0 : Int)).toNat = 0 from rfl] at s); (try rw [Addr.add_zero'] at s); replace y := eq_true y; replace z := eq_true z))
   go_ret3
   exact ⟨_, _, by first | rfl | (simp [errW_none, errW_some] <;> rfl) | (simp only [← t]; first | rfl | (simp [errW_none, errW_some] <;> rfl)) | (simp [*, errW_none, errW_some] <;> rfl), by (with_reducible repeat (first | apply Kd.S_alloc | apply Kd.S_drewN | apply Kd.S_drew)); exact Kd.S_mono m.out (fun _ hk => hk.2), by (with_reducible repeat (first | apply Kd.R_alloc | apply Kd.R_drewN | apply Kd.R_drew)); exact Kd.R_mono x.out (fun _ hk => trivial), IsS99.below a.out lt_, below_at HB.out, keep_at HK.out⟩
  revert H; refine g_ (mt_ fun ap H => ?_)
  obtain ⟨a8, K⟩ : ∃ y_ : List (S82), y_ = (ah ++ [(⟨2, 0⟩ : S82)]) := ⟨_, rfl⟩
  first | (replace H := bn_ K H; try dsimp only at H) | rw [← K] at H
  have aq := mk_ K
  clear K
  simp only [Option.some.injEq, Prod.mk.injEq] at H
  obtain ⟨rfl, rfl, rfl, rfl⟩ := H
  go_wp2_with (first | ((with_reducible refine gate_callee (f := 52) rfl ?_); refine gc_ 52 (some 33) Tryd.func52 #[.pointer (some ⟨g, 0, none⟩), .int .i64 o] ?_; (with_reducible refine mo_ (spec_l20Rd_pick.calls ax g c d o i af q _ ?side1 ?side2 ag.out) ?_); (case side1 => exact IsS99.below a.out lt_); (case side2 => exact below_at HB.out); rintro bo ⟨hi, hb, hk⟩; replace m := mk_ (Kd.S_mono (Kd.S_keep (IsS99.apartS (show IsS99 q _ g c d from IsS99.below a.out lt_) (Kd.S_below m.out lt_) (by decide)) hk (fun _ h => h.2)) (fun _ h => h.1)); replace p := mk_ (Kd.R_mono (Kd.R_keep (IsS99.apart (show IsS99 q _ g c d from IsS99.below a.out lt_) (Kd.R_below p.out lt_) (by decide)) hk (fun _ h => h.2)) (fun _ h => h.1)); replace n := mk_ (Kd.R_mono (Kd.R_keep (IsS99.apart (show IsS99 q _ g c d from IsS99.below a.out lt_) (Kd.R_below n.out lt_) (by decide)) hk (fun _ h => h.2)) (fun _ h => h.1)); replace HK := kc_ HK hk; replace HB := mk_ (hb); replace a := mk_ (hi); (try clear hb)) | ((with_reducible refine gate_dst (N := 36) rfl ?_); refine Kd.R_lit k82 _ 82 ?hg (N := 36) ?hd (xs := ([(⟨0, i⟩ : S82)] : List (S82))) (inner := [.int .i64 0, .int .i64 i]) (ok := fun _ => True) (okp := fun _ => True) ?hr ?hp (fun _ hk => hk) trivial (Below.refl _ _) (Nat.le_refl _) (by simp) ?_; (case hd => rfl); (case hg => rfl); (case hr => first | (go_simp; done) | (go_simp; rfl)); (case hp => exact (Reps.c2 (show Kd.M k82 _ _ _ (⟨0, i⟩ : S82) [.int .i64 0, .int .i64 i] from (k82_mkM _ _ _ (⟨0, i⟩ : S82) )) (Reps.none _ _))); intro aj bp A hb ak T; clear ak T; (first | rw [← J.out] at A | (simp only [Int.reduceToNat] at A; rw [← J.out] at A)); replace m := mk_ (Kd.S_elder' (Kd.S_below m.out lt_) (Kd.R_base A) hb); replace n := mk_ (Kd.R_below (Kd.R_below n.out lt_) hb); have x := mk_ (Kd.R_lower (Kd.R_new' A (Kd.R_lt (Kd.R_below p.out lt_))) (keep_size (w := w) (g := g) (row := none) (keep_at HK.out))); replace p := mk_ (Kd.R_elder' (Kd.R_below p.out lt_) (Kd.R_base A) hb); replace a := mk_ (IsS99.below (IsS99.below a.out lt_) hb); replace HK := kb_ HK hb; replace HB := hs_ HB hb; clear hb A; obtain ⟨a9, ba, aI⟩ := Kd.R_slice n.out; subst aI; have y : 0 ≤ (0 : Int) := (by omega); have z : 0 < (l.length : Int) := oa_; obtain ⟨an, Z, s⟩ := Kd.at_int (Kd.R_reads' n.out).2.2 0 y z; cases Z; have ao : (0 < l.length) = True := eq_true (by omega); (try rw [show ((0 : Int)).toNat = 0 from rfl] at s); (try rw [Addr.add_zero'] at s); replace y := eq_true y; replace z := eq_true z) | ((with_reducible refine gate_builtin (b := .append) (xs := #[.tmp 44, .tmp 46]) rfl ?_); at_builtin; refine Kd.R_append k82 w.heap.size rfl (.tmp 44) (.tmp 46) 24 82 (.agg #[(.int .i64 0), (.int .i64 0)]) 16 rfl Tryd.underlying24 info82 rfl (by decide) (by omega) aj ah (⟨2, 0⟩ : S82) [.int .i64 2, .int .i64 0] (fun k_ => some k_ ≠ (O : Value).ownBlock) (fun _ => False) rfl rfl ?aP (fun _ hk => hk.elim) ?aF ?aO (Below.refl _ _) ?aS ?aL ?_; (case aP => exact k82_mkM _ _ _ (⟨2, 0⟩ : S82)); (case aF => exact (fun k_ hk => Kd.fresh' (Kd.R_lt (Kd.R_below p.out lt_)) k_ hk)); (case aO => exact (Kd.R_below (Kd.R_mono x.out (fun _ hk => hk.2)) lt_)); (case aS => exact (keep_size (w := w) (g := g) (row := none) (keep_at HK.out))); (case aL => have := ap.out; omega); intro bb bq ho hb hg hat; rw [← aq.out] at ho; replace m := mk_ (Kd.S_after (ok := (fun k_ => some k_ ≠ (O : Value).ownBlock)) (Kd.S_below m.out lt_) hg hat); replace a := mk_ (IsS99.grown (IsS99.below a.out lt_) hg (IsS99.own_ne a.out x.out (by decide))); replace HB := mk_ (below_weaken (below_at HB.out) HL.out hb); replace HK := mk_ (KeepBut.trans (keep_at HK.out) (KeepBut.of_grown hg g) (Kd.R_base2 x.out)); have ar := mk_ (ho); (try clear p n x); clear ho hb hg hat))
  go_ret3
  exact ⟨_, _, by first | rfl | (simp [errW_none, errW_some] <;> rfl) | (simp only [← t]; first | rfl | (simp [errW_none, errW_some] <;> rfl)) | (simp [*, errW_none, errW_some] <;> rfl), by (with_reducible repeat (first | apply Kd.S_alloc | apply Kd.S_drewN | apply Kd.S_drew)); exact Kd.S_mono m.out (fun _ hk => hk.2), by (with_reducible repeat (first | apply Kd.R_alloc | apply Kd.R_drewN | apply Kd.R_drew)); exact Kd.R_mono ar.out (fun _ hk => trivial), IsS99.below a.out lt_, below_at HB.out, keep_at HK.out⟩
mutual
def spec_l11Grow.l0 : Nat → Int → List (S79) → List (S82) → List Int → List (S68) → Int → Int → Option ((List (S68)) × Int × Bool)
 | 0, _, _, _, _, _, _, _ => none
 | k + 1, x0, x1, x2, x3, x4, x13, x14 => if x14 < (x1.length : Int) then ((spec_l11Closes.f k x0 x1 x2 (wrap64 ((-2) - x14)) x3).bind fun t397 => (if t397 = true then (some (x4, wrap64 ((-2) - x14), true)) else (spec_l11Grow.l0 k x0 x1 x2 x3 x4 x13 (wrap64 (x14 + 1))))) else (spec_l11Grow.l1 k x0 x1 x2 x3 x4 x13 (wrap64 (x0 - 1)))
def spec_l11Grow.l1 : Nat → Int → List (S79) → List (S82) → List Int → List (S68) → Int → Int → Option ((List (S68)) × Int × Bool)
 | 0, _, _, _, _, _, _, _ => none
 | k + 1, x0, x1, x2, x3, x4, x13, x15 => if x15 ≥ 0 then (if 0 ≤ x15 then (if x15 < (x3.length : Int) then (if (rd x3 x15) < 0 then (spec_l11Grow.l1 k x0 x1 x2 x3 x4 x15 (wrap64 (x15 - 1))) else (spec_l11Grow.l1 k x0 x1 x2 x3 x4 x13 (wrap64 (x15 - 1)))) else (none)) else (none)) else (if x13 < 0 then (some (x4, (-1), false)) else ((some (([] : List (S68)) : List (S68))).bind fun y399 => (if y399.length + x4.length < 5864062014805 then ((some (y399 ++ x4 : List (S68))).bind fun y402 => (if y402.length < 5864062014805 then ((some (([] : List Int) : List Int)).bind fun y408 => (if y408.length + x3.length < 17592186044416 then ((some (y408 ++ x3 : List Int)).bind fun y411 => (if 0 ≤ x13 then (if x13 < (y411.length : Int) then ((some (([] : List Int) : List Int)).bind fun y415 => (if y415.length + x3.length < 17592186044416 then ((some (y415 ++ x3 : List Int)).bind fun y418 => (if x13 < (y418.length : Int) then ((spec_l11Grow.f k x0 x1 x2 (y411.set (x13 : Int).toNat 0) (y402 ++ [(⟨x13, (-1), (-1)⟩ : S68)])).bind fun bt422 => ((spec_l11Grow.f k x0 x1 x2 (y418.set (x13 : Int).toNat 1) bt422.1).bind fun bt427 => (if 0 ≤ (x4.length : Int) then (if (x4.length : Int) < (bt427.1.length : Int) then ((some (bt427.1.set ((x4.length : Int) : Int).toNat (⟨x13, bt422.2.1, bt427.2.1⟩ : S68) : List (S68))).bind fun y432 => (if bt422.2.2 = true then (some (y432, (x4.length : Int), bt427.2.2)) else (some (y432, (x4.length : Int), false)))) else (none)) else (none)))) else (none))) else (none))) else (none)) else (none))) else (none))) else (none))) else (none))))
def spec_l11Grow.f : Nat → Int → List (S79) → List (S82) → List Int → List (S68) → Option ((List (S68)) × Int × Bool)
 | 0, _, _, _, _, _ => none
 | k + 1, a0, l1, l2, l3, l4 => (spec_l11Closes.f k a0 l1 l2 (-1) l3).bind fun t396 => (if t396 = true then (some (l4, (-1), true)) else (spec_l11Grow.l0 k a0 l1 l2 l3 l4 (-1) 0))
end
theorem spec_l11Grow.calls (k : Nat) : ∀ (B : Int) (A1 : Option Addr) (c1 : Nat) (l1 : List (S79)) (A2 : Option Addr) (c2 : Nat) (x : List (S82)) (A3 : Option Addr) (c3 : Nat) (r : List Int) (d : Nat → Prop) (L : Value) (i : List (S68)) (r1 : List (S68)) (r2 : Int) (r3 : Bool) (w0 w : World) (hB : Below w0.heap.size w0 w) (bp : ∀ W_, Kept w W_ (fun k_ => d k_) → Kd.C k79 W_ A1 l1.length l1) (bq : l1.length ≤ c1) (br : ∀ W_, Kept w W_ (fun k_ => d k_) → Kd.C k82 W_ A2 x.length x) (bs : x.length ≤ c2) (bu : ∀ W_, Kept w W_ (fun k_ => d k_) → Kd.C (Kd.int .i64) W_ A3 r.length r) (bv : r.length ≤ c3) (ci : Kd.R k68 68 w w0.heap.size d L i) (h : spec_l11Grow.f k B l1 x r i = some (r1, r2, r3)),
  Calls Tryd.prog 77 #[.int .i64 B, .slice A1 l1.length c1, .slice A2 x.length c2, .slice A3 r.length c3, L] w fun e w' => ∃ cj : Value, e = .returned (.tuple #[cj, .int .i64 r2, .bool r3]) ∧ Kd.R k68 68 w' w0.heap.size (fun k_ => (d k_ ∨ w.heap.size ≤ k_)) cj r1 ∧ Below w0.heap.size w0 w' ∧ Kept w w' (fun k_ => d k_) := by
 induction k using Nat.strongRecOn with
 | _ k ih =>
 intro B A1 c1 l1 A2 c2 x A3 c3 r d L i r1 r2 r3 w0 w hB bp bq br bs bu bv ci h
 cases k with
 | zero => exact absurd h (by simp [spec_l11Grow.f])
 | succ k =>
 simp only [spec_l11Grow.f] at h
 have dl := Tryd.underlying68
 have aE := mk_ bp
 have aG := mk_ bq
 clear bp bq
 have aH := mk_ br
 have aI := mk_ bs
 clear br bs
 have aj := mk_ bu
 have bf := mk_ bv
 clear bu bv
 have aJ := mk_ (show Kd.R k68 68 w w0.heap.size (fun k_ => (d k_ ∨ w.heap.size ≤ k_)) L i from Kd.R_mono ci (fun k_ hk => (.inl hk)))
 have HK := mk_ (Kept.refl w (fun k_ => d k_))
 have dB := mk_ hB.size
 have HB := mk_ hB
 clear hB
 have H : ((spec_l11Closes.f k B l1 x (-1) r).bind fun bw => (if bw = true then (some (i, (-1), true)) else (spec_l11Grow.l0 k B l1 x r i (-1) 0))) = some (r1, r2, r3) := h
 clear h
 revert H; refine bd_ fun bw A6 H => ?_
 try dsimp only at H
 revert H; refine ib_ ?_ ?_ <;> rintro rfl H
 ·simp only [Option.some.injEq, Prod.mk.injEq] at H
  obtain ⟨rfl, rfl, rfl⟩ := H
  go_enter Tryd.func77, Tryd.ntmps77
  go_wp2_with (first | ((with_reducible refine gate_callee (f := 81) rfl ?_); refine gc_ 81 (some 27) Tryd.func81 #[.int .i64 B, .slice A1 l1.length c1, .slice A2 x.length c2, .int .i64 (-1), .slice A3 r.length c3] ?_; (with_reducible refine mo_ (spec_l11Closes.calls k B _ _ l1 _ _ x (-1) _ _ r true _ ?side1 ?side2 ?side3 ?side4 ?side5 ?side6 A6.out) ?_); (case side1 => exact Kd.C_kept_now aE.out (kp_ HK.out)); (case side2 => exact aG.out); (case side3 => exact Kd.C_kept_now aH.out (kp_ HK.out)); (case side4 => exact aI.out); (case side5 => exact Kd.C_kept_now aj.out (kp_ HK.out)); (case side6 => exact bf.out); intro w8 hb; replace aJ := mk_ (Kd.R_below (Kd.R_below aJ.out lt_) hb); replace HK := mk_ (Kept.below (S := (fun k_ => d k_)) (kp_ HK.out) hb); replace HB := hs_ HB hb; (try clear hb)))
  go_ret3
  exact ⟨_, er_, rl_ aJ.out, below_at HB.out, kp_ HK.out⟩
 have H' := mk_ H
 clear H
 go_enter Tryd.func77, Tryd.ntmps77
 go_wp2_with (first | ((with_reducible refine gate_callee (f := 81) rfl ?_); refine gc_ 81 (some 27) Tryd.func81 #[.int .i64 B, .slice A1 l1.length c1, .slice A2 x.length c2, .int .i64 (-1), .slice A3 r.length c3] ?_; (with_reducible refine mo_ (spec_l11Closes.calls k B _ _ l1 _ _ x (-1) _ _ r false _ ?side1 ?side2 ?side3 ?side4 ?side5 ?side6 A6.out) ?_); (case side1 => exact Kd.C_kept_now aE.out (kp_ HK.out)); (case side2 => exact aG.out); (case side3 => exact Kd.C_kept_now aH.out (kp_ HK.out)); (case side4 => exact aI.out); (case side5 => exact Kd.C_kept_now aj.out (kp_ HK.out)); (case side6 => exact bf.out); intro w9 hb; replace aJ := mk_ (Kd.R_below (Kd.R_below aJ.out lt_) hb); replace HK := mk_ (Kept.below (S := (fun k_ => d k_)) (kp_ HK.out) hb); replace HB := hs_ HB hb; (try clear hb)))
 go_loopg [14] k (fun kq cG w' => ∃ (G : Int), cG = .int .i64 G ∧ Aside0 (spec_l11Grow.l0 kq B l1 x r i (-1) G = some (r1, r2, r3)) ∧ Aside0 (kq ≤ k) ∧ Aside0 (Kd.R k68 68 w' w0.heap.size (fun k_ => (d k_ ∨ w.heap.size ≤ k_)) L i) ∧ Aside0 (Kept w w' (fun k_ => d k_)) ∧ Aside0 (Below w0.heap.size w0 w'))
 case atStart => exact ⟨(0), sm_, H', ⟨Nat.le_refl _⟩, ⟨Kd.R_below aJ.out lt_⟩, ⟨kp_ HK.out⟩, ⟨below_at HB.out⟩⟩
 clear H'
 try clear c1
 try clear c2
 try clear c3
 obtain ⟨G, rfl, HA, ak, c, HK, HB⟩ := hrel
 cases gk with
 | zero => exact absurd HA.out (by simp [spec_l11Grow.l0])
 | succ k1 =>
  have H := HA.out
  clear HA
  simp only [spec_l11Grow.l0] at H
  revert H; refine it_ (dt_ fun bg H => ?_) (df_ fun bg H => ?_)
  ·revert H; refine bd_ fun dm ck H => ?_
   try dsimp only at H
   revert H; refine ib_ ?_ ?_ <;> rintro rfl H
   ·simp only [Option.some.injEq, Prod.mk.injEq] at H
    obtain ⟨rfl, rfl, rfl⟩ := H
    go_wp2_with (first | ((with_reducible refine gate_callee (f := 81) rfl ?_); refine gc_ 81 (some 41) Tryd.func81 #[.int .i64 B, .slice A1 l1.length c1, .slice A2 x.length c2, .int .i64 (wrap64 ((-2) - G)), .slice A3 r.length c3] ?_; (with_reducible refine mo_ (spec_l11Closes.calls k1 B _ _ l1 _ _ x (wrap64 ((-2) - G)) _ _ r true _ ?side1 ?side2 ?side3 ?side4 ?side5 ?side6 ck.out) ?_); (case side1 => exact Kd.C_kept_now aE.out (kp_ HK.out)); (case side2 => exact aG.out); (case side3 => exact Kd.C_kept_now aH.out (kp_ HK.out)); (case side4 => exact aI.out); (case side5 => exact Kd.C_kept_now aj.out (kp_ HK.out)); (case side6 => exact bf.out); intro dC hb; replace c := mk_ (Kd.R_below (Kd.R_below c.out lt_) hb); replace HK := mk_ (Kept.below (S := (fun k_ => d k_)) (kp_ HK.out) hb); replace HB := hs_ HB hb; (try clear hb)))
    go_ret3
    exact ⟨_, er_, rl_ c.out, below_at HB.out, kp_ HK.out⟩
   have H' := mk_ H
   clear H
   go_wp2_with (first | ((with_reducible refine gate_callee (f := 81) rfl ?_); refine gc_ 81 (some 41) Tryd.func81 #[.int .i64 B, .slice A1 l1.length c1, .slice A2 x.length c2, .int .i64 (wrap64 ((-2) - G)), .slice A3 r.length c3] ?_; (with_reducible refine mo_ (spec_l11Closes.calls k1 B _ _ l1 _ _ x (wrap64 ((-2) - G)) _ _ r false _ ?side1 ?side2 ?side3 ?side4 ?side5 ?side6 ck.out) ?_); (case side1 => exact Kd.C_kept_now aE.out (kp_ HK.out)); (case side2 => exact aG.out); (case side3 => exact Kd.C_kept_now aH.out (kp_ HK.out)); (case side4 => exact aI.out); (case side5 => exact Kd.C_kept_now aj.out (kp_ HK.out)); (case side6 => exact bf.out); intro dD hb; replace c := mk_ (Kd.R_below (Kd.R_below c.out lt_) hb); replace HK := mk_ (Kept.below (S := (fun k_ => d k_)) (kp_ HK.out) hb); replace HB := hs_ HB hb; (try clear hb)))
   go_roundg k1
   case measure => have := ak.out; omega
   case rel => exact ⟨(wrap64 (G + 1)), sm_, H', ⟨by have := ak.out; omega⟩, ⟨Kd.R_below c.out lt_⟩, ⟨kp_ HK.out⟩, ⟨below_at HB.out⟩⟩
  have H' := mk_ H
  clear H
  go_wp2
  go_loopg [13, 15] k1 (fun kq cH cI w' => ∃ (a : Int) (z : Int), cH = .int .i64 a ∧ cI = .int .i64 z ∧ Aside0 (spec_l11Grow.l1 kq B l1 x r i a z = some (r1, r2, r3)) ∧ Aside0 (kq ≤ k1) ∧ Aside0 (Kd.R k68 68 w' w0.heap.size (fun k_ => (d k_ ∨ w.heap.size ≤ k_)) L i) ∧ Aside0 (Kept w w' (fun k_ => d k_)) ∧ Aside0 (Below w0.heap.size w0 w'))
  case atStart => exact ⟨((-1)), (wrap64 (B - 1)), sm_, sm_, H', ⟨Nat.le_refl _⟩, ⟨Kd.R_below c.out lt_⟩, ⟨kp_ HK.out⟩, ⟨below_at HB.out⟩⟩
  clear H'
  try clear c1
  try clear c2
  try clear c3
  try clear bg
  obtain ⟨a, z, rfl, rfl, HA, aK, c, HK, HB⟩ := hrel
  cases gk with
  | zero => exact absurd HA.out (by simp [spec_l11Grow.l1])
  | succ k2 =>
   have H := HA.out
   clear HA
   simp only [spec_l11Grow.l1] at H
   revert H; refine it_ (dt_e fun b2 H => ?_) (df_e fun b2 H => ?_)
   ·revert H; refine g_ (dt_ fun cY => g_ (dt_ fun cZ => it_ (dt_ fun b3 H => ?_) (df_ fun b3 H => ?_)))
    ·have H' := mk_ H
     clear H
     obtain ⟨b4, a5, bo⟩ := Kd.at_int (Kd.C_kept_now aj.out HK.out) z oa_ oa_
     cases a5
     obtain ⟨co, cp⟩ := pq_ (z : Int) (r.length : Int)
     go_wp2
     go_roundg k2
     case measure => have := ak.out; have := aK.out; omega
     case rel => exact ⟨(z), (wrap64 (z - 1)), sm_, sm_, H', ⟨by have := ak.out; have := aK.out; omega⟩, ⟨Kd.R_below c.out lt_⟩, ⟨kp_ HK.out⟩, ⟨below_at HB.out⟩⟩
    have H' := mk_ H
    clear H
    obtain ⟨b4, a5, bo⟩ := Kd.at_int (Kd.C_kept_now aj.out HK.out) z oa_ oa_
    cases a5
    obtain ⟨co, cp⟩ := pq_ (z : Int) (r.length : Int)
    go_wp2
    go_roundg k2
    case measure => have := ak.out; have := aK.out; omega
    case rel => exact ⟨(a), (wrap64 (z - 1)), sm_, sm_, H', ⟨by have := ak.out; have := aK.out; omega⟩, ⟨Kd.R_below c.out lt_⟩, ⟨kp_ HK.out⟩, ⟨below_at HB.out⟩⟩
   revert H; refine it_ (dt_ fun b5 H => ?_) (df_ fun b5 H => ?_)
   ·simp only [Option.some.injEq, Prod.mk.injEq] at H
    obtain ⟨rfl, rfl, rfl⟩ := H
    go_wp2
    go_ret3
    exact ⟨_, er_, rl_ c.out, below_at HB.out, kp_ HK.out⟩
   obtain ⟨aW, aX⟩ : ∃ y_ : List (S68), y_ = (([] : List (S68))) := ⟨_, rfl⟩
   replace H : (if aW.length + i.length < 5864062014805 then ((some (aW ++ i : List (S68))).bind fun az => (if az.length < 5864062014805 then ((some (([] : List Int) : List Int)).bind fun O => (if O.length + r.length < 17592186044416 then ((some (O ++ r : List Int)).bind fun q => (if 0 ≤ a then (if a < (q.length : Int) then ((some (([] : List Int) : List Int)).bind fun I => (if I.length + r.length < 17592186044416 then ((some (I ++ r : List Int)).bind fun n => (if a < (n.length : Int) then ((spec_l11Grow.f k2 B l1 x (q.set (a : Int).toNat 0) (az ++ [(⟨a, (-1), (-1)⟩ : S68)])).bind fun s => ((spec_l11Grow.f k2 B l1 x (n.set (a : Int).toNat 1) s.1).bind fun o => (if 0 ≤ (i.length : Int) then (if (i.length : Int) < (o.1.length : Int) then ((some (o.1.set ((i.length : Int) : Int).toNat (⟨a, s.2.1, o.2.1⟩ : S68) : List (S68))).bind fun J => (if s.2.2 = true then (some (J, (i.length : Int), o.2.2)) else (some (J, (i.length : Int), false)))) else (none)) else (none)))) else (none))) else (none))) else (none)) else (none))) else (none))) else (none))) else (none)) = some (r1, r2, r3) := by first | (rw [aX]; exact H) | exact H
   have bh := mk_ aX
   clear aX
   revert H; refine g_ (mt_ fun b6 H => ?_)
   obtain ⟨az, am⟩ : ∃ y_ : List (S68), y_ = (aW ++ i) := ⟨_, rfl⟩
   first | (replace H := bn_ am H; try dsimp only at H) | rw [← am] at H
   have b7 := mk_ am
   clear am
   revert H; refine g_ (mt_ fun b8 H => ?_)
   obtain ⟨aa, an⟩ : ∃ y_ : List (S68), y_ = (az ++ [(⟨a, (-1), (-1)⟩ : S68)]) := ⟨_, rfl⟩
   first | (replace H := bn_ an H; try dsimp only at H) | rw [← an] at H
   have b9 := mk_ an
   clear an
   obtain ⟨O, aY⟩ : ∃ y_ : List Int, y_ = (([] : List Int)) := ⟨_, rfl⟩
   replace H : (if O.length + r.length < 17592186044416 then ((some (O ++ r : List Int)).bind fun q => (if 0 ≤ a then (if a < (q.length : Int) then ((some (([] : List Int) : List Int)).bind fun I => (if I.length + r.length < 17592186044416 then ((some (I ++ r : List Int)).bind fun n => (if a < (n.length : Int) then ((spec_l11Grow.f k2 B l1 x (q.set (a : Int).toNat 0) aa).bind fun s => ((spec_l11Grow.f k2 B l1 x (n.set (a : Int).toNat 1) s.1).bind fun o => (if 0 ≤ (i.length : Int) then (if (i.length : Int) < (o.1.length : Int) then ((some (o.1.set ((i.length : Int) : Int).toNat (⟨a, s.2.1, o.2.1⟩ : S68) : List (S68))).bind fun J => (if s.2.2 = true then (some (J, (i.length : Int), o.2.2)) else (some (J, (i.length : Int), false)))) else (none)) else (none)))) else (none))) else (none))) else (none)) else (none))) else (none)) = some (r1, r2, r3) := by first | (rw [aY]; exact H) | exact H
   have bj := mk_ aY
   clear aY
   revert H; refine g_ (mt_ fun ca H => ?_)
   obtain ⟨q, ao⟩ : ∃ y_ : List Int, y_ = (O ++ r) := ⟨_, rfl⟩
   first | (replace H := bn_ ao H; try dsimp only at H) | rw [← ao] at H
   have cb := mk_ ao
   clear ao
   revert H; refine g_ (dt_ fun c0 => g_ (dt_ fun da H => ?_))
   obtain ⟨P, ap⟩ : ∃ y_ : List Int, y_ = (q.set (a : Int).toNat 0) := ⟨_, rfl⟩
   first | (replace H := bn_ ap H; try dsimp only at H) | rw [← ap] at H
   have cc := mk_ ap
   clear ap
   obtain ⟨I, aZ⟩ : ∃ y_ : List Int, y_ = (([] : List Int)) := ⟨_, rfl⟩
   replace H : (if I.length + r.length < 17592186044416 then ((some (I ++ r : List Int)).bind fun n => (if a < (n.length : Int) then ((spec_l11Grow.f k2 B l1 x P aa).bind fun s => ((spec_l11Grow.f k2 B l1 x (n.set (a : Int).toNat 1) s.1).bind fun o => (if 0 ≤ (i.length : Int) then (if (i.length : Int) < (o.1.length : Int) then ((some (o.1.set ((i.length : Int) : Int).toNat (⟨a, s.2.1, o.2.1⟩ : S68) : List (S68))).bind fun J => (if s.2.2 = true then (some (J, (i.length : Int), o.2.2)) else (some (J, (i.length : Int), false)))) else (none)) else (none)))) else (none))) else (none)) = some (r1, r2, r3) := by first | (rw [aZ]; exact H) | exact H
   have bk := mk_ aZ
   clear aZ
   revert H; refine g_ (mt_ fun cd H => ?_)
   obtain ⟨n, aq⟩ : ∃ y_ : List Int, y_ = (I ++ r) := ⟨_, rfl⟩
   first | (replace H := bn_ aq H; try dsimp only at H) | rw [← aq] at H
   have ce := mk_ aq
   clear aq
   revert H; refine g_ (dt_ fun db H => ?_)
   obtain ⟨ab, ar⟩ : ∃ y_ : List Int, y_ = (n.set (a : Int).toNat 1) := ⟨_, rfl⟩
   first | (replace H := bn_ ar H; try dsimp only at H) | rw [← ar] at H
   have cf := mk_ ar
   clear ar
   replace H := bm_ H; obtain ⟨⟨aA, ac, cq⟩, cJ, H⟩ := H
   try dsimp only at H
   replace H := bm_ H; obtain ⟨⟨y, ad, cr⟩, cK, H⟩ := H
   try dsimp only at H
   revert H; refine g_ (fun cl H => ?_)
   have dc : decide (0 ≤ (i.length : Int)) = true := decide_eq_true cl
   have dd : decide (0 ≤ i.length) = true := decide_eq_true (by omega)
   clear cl
   revert H; refine g_ (fun bz H => ?_)
   have de : decide ((i.length : Int) < (y.length : Int)) = true := decide_eq_true bz
   have dg : decide (i.length < y.length) = true := decide_eq_true (Int.ofNat_lt.mp bz)
   clear bz
   obtain ⟨J, au⟩ : ∃ y_ : List (S68), y_ = (y.set ((i.length : Int) : Int).toNat (⟨a, ac, ad⟩ : S68)) := ⟨_, rfl⟩
   first | (replace H := bn_ au H; try dsimp only at H) | rw [← au] at H
   have cg := mk_ au
   clear au
   obtain ⟨ae, af, cs⟩ := Kd.R_slice c.out
   subst cs
   go_upto_region 25 with (first | ((with_reducible refine gate_dst (N := 62) rfl ?_); refine Kd.R_lit k68 _ 68 ?hg (N := 62) ?hd (xs := ([] : List (S68))) (inner := []) (ok := fun _ => True) (okp := fun _ => True) ?hr ?hp (fun _ hk => hk) trivial (Below.refl _ _) (Nat.le_refl _) (by simp) ?_; (case hd => rfl); (case hg => rfl); (case hr => first | (go_simp; done) | (go_simp; rfl)); (case hp => exact (Reps.none _ _)); intro ct dE ag hb a3 U; clear a3 U; (first | rw [← bh.out] at ag | (simp only [Int.reduceToNat] at ag; rw [← bh.out] at ag)); have a1 := mk_ (Kd.R_lower (Kd.R_new' (Kd.R_newM (M := fun k_ => (d k_ ∨ w.heap.size ≤ k_)) ag (kp_ HK.out).1 (fun k_ h_ => .inr h_)) (Kd.R_lt (Kd.R_below c.out lt_))) (below_size (below_at HB.out))); replace c := mk_ (Kd.R_elder' (Kd.R_below c.out lt_) (Kd.R_base ag) hb); replace HK := mk_ (Kept.below (S := (fun k_ => d k_)) (kp_ HK.out) hb); replace HB := hs_ HB hb; clear hb ag) | ((with_reducible refine gate_builtin (b := .append) (xs := #[.tmp 62, .tmp 63]) rfl ?_); at_builtin; refine Kd.R_append_rows k68 (w0 := w0) w0.heap.size rfl (.tmp 62) (.tmp 63) 25 68 (.agg #[(.int .i64 0), (.int .i64 0), (.int .i64 0)]) 24 rfl Tryd.underlying25 info68 rfl (by decide) (by omega) ct aW i _ _ _ (fun k_ => (d k_ ∨ w.heap.size ≤ k_) ∧ some k_ ≠ (.slice ae i.length af : Value).ownBlock) (fun _ => False) rfl rfl ?aO ?aR (fun _ _ h => h) (fun _ h => h.elim) ?aF ?aB ?aS ?aL ?_; (case aR => exact Kd.C_below (Kd.R_reads' c.out).2.2 lt_); (case aB => exact (below_at HB.out)); (case aF => exact (fun k_ hk => ⟨(.inr (Nat.le_trans (kp_ HK.out).1 hk)), Kd.fresh' (Kd.R_lt (Kd.R_below c.out lt_)) k_ hk⟩)); (case aO => exact (Kd.R_below (Kd.R_mono a1.out (fun _ hk => ⟨hk.1.1, hk.2⟩)) lt_)); (case aS => exact (below_size (below_at HB.out))); (case aL => have := b6.out; omega); intro cu dF ho hb hg hat; rw [← b7.out] at ho; replace c := mk_ (Kd.R_after (ok := (fun k_ => (d k_ ∨ w.heap.size ≤ k_))) (Kd.R_below c.out lt_) hg hat); replace HB := mk_ (hb); replace HK := mk_ (Kept.of_grown (S := (fun k_ => d k_)) hg (kp_ HK.out) (fun k_ e_ => (a1.out.1 k_ e_).1.1)); have a2 := mk_ (ho); (try clear a1); clear ho hb hg hat) | ((with_reducible refine gate_builtin (b := .append) (xs := #[.tmp 64, .tmp 67]) rfl ?_); at_builtin; refine Kd.R_append k68 (w0 := w0) w0.heap.size rfl (.tmp 64) (.tmp 67) 25 68 (.agg #[(.int .i64 0), (.int .i64 0), (.int .i64 0)]) 24 rfl Tryd.underlying25 info68 rfl (by decide) (by omega) cu az (⟨a, (-1), (-1)⟩ : S68) [.int .i64 a, .int .i64 (-1), .int .i64 (-1)] (fun k_ => (d k_ ∨ w.heap.size ≤ k_) ∧ some k_ ≠ (.slice ae i.length af : Value).ownBlock) (fun _ => False) rfl rfl ?aP (fun _ hk => hk.elim) ?aF ?aO ?aB ?aS ?aL ?_; (case aP => exact k68_mkM _ _ _ (⟨a, (-1), (-1)⟩ : S68)); (case aB => exact (below_at HB.out)); (case aF => exact (fun k_ hk => ⟨(.inr (Nat.le_trans (kp_ HK.out).1 hk)), Kd.fresh' (Kd.R_lt (Kd.R_below c.out lt_)) k_ hk⟩)); (case aO => exact (Kd.R_below a2.out lt_)); (case aS => exact (below_size (below_at HB.out))); (case aL => have := b8.out; omega); intro dn dG ho hb hg hat; rw [← b9.out] at ho; replace c := mk_ (Kd.R_after (ok := (fun k_ => (d k_ ∨ w.heap.size ≤ k_))) (Kd.R_below c.out lt_) hg hat); replace HB := mk_ (hb); replace HK := mk_ (Kept.of_grown (S := (fun k_ => d k_)) hg (kp_ HK.out) (fun k_ e_ => (a2.out.1 k_ e_).1)); have l := mk_ (ho); (try clear a2); clear ho hb hg hat) | ((with_reducible refine gate_dst (N := 69) rfl ?_); refine Kd.R_lit (Kd.int .i64) _ 3 ?hg (N := 69) ?hd (xs := ([] : List Int)) (inner := []) (ok := fun _ => True) (okp := fun _ => True) ?hr ?hp (fun _ hk => hk) trivial (Below.refl _ _) (Nat.le_refl _) (by simp) ?_; (case hd => rfl); (case hg => rfl); (case hr => first | (go_simp; done) | (go_simp; rfl)); (case hp => exact (Reps.none _ _)); intro cv dH aC hb a3 U; clear a3 U; (first | rw [← bj.out] at aC | (simp only [Int.reduceToNat] at aC; rw [← bj.out] at aC)); replace c := mk_ (Kd.R_below (Kd.R_below c.out lt_) hb); replace l := mk_ (Kd.R_below (Kd.R_below l.out lt_) hb); have W := mk_ (Kd.R_lower (Kd.R_newM (M := fun k_ => (d k_ ∨ w.heap.size ≤ k_)) aC (kp_ HK.out).1 (fun k_ h_ => .inr h_)) (below_size (below_at HB.out))); replace HK := mk_ (Kept.below (S := (fun k_ => d k_)) (kp_ HK.out) hb); replace HB := hs_ HB hb; clear hb aC) | ((with_reducible refine gate_builtin (b := .append) (xs := #[.tmp 69, .tmp 70]) rfl ?_); at_builtin; refine Kd.R_append_rows (Kd.int .i64) (w0 := w0) w0.heap.size rfl (.tmp 69) (.tmp 70) 103 3 (.int .i64 0) 8 rfl Tryd.underlying103 info3 rfl (by decide) (by omega) cv O r _ _ _ (fun k_ => (d k_ ∨ w.heap.size ≤ k_)) (fun _ => False) rfl rfl ?aO ?aR (fun _ _ h => h) (fun _ h => h.elim) ?aF ?aB ?aS ?aL ?_; (case aR => exact Kd.C_kept_now aj.out (kp_ HK.out)); (case aB => exact (below_at HB.out)); (case aF => exact (fun k_ hk => (.inr (Nat.le_trans (kp_ HK.out).1 hk)))); (case aO => exact (Kd.R_below (Kd.R_mono W.out (fun _ hk => hk.1)) lt_)); (case aS => exact (below_size (below_at HB.out))); (case aL => have := ca.out; omega); intro dp cm ho hb hg hat; rw [← cb.out] at ho; replace c := mk_ (Kd.R_over' (Kd.R_below c.out lt_) (Kd.R_typed (Kd.R_below W.out lt_)) (by decide) hg); replace l := mk_ (Kd.R_over' (Kd.R_below l.out lt_) (Kd.R_typed (Kd.R_below W.out lt_)) (by decide) hg); replace HB := mk_ (hb); replace HK := mk_ (Kept.of_grown (S := (fun k_ => d k_)) hg (kp_ HK.out) (fun k_ e_ => (W.out.1 k_ e_).1)); have g := mk_ (ho); (try clear W); clear ho hb hg hat; have bA : 0 ≤ (a : Int) := oa_; have bB : (a : Int) < ((q.length : Int) : Int) := oa_; obtain ⟨E, T, bC, bD, cw, dq, bE⟩ := Kd.R_form g.out (by omega); (first | cases bC | (injection bC with ea_ en_ ec_; (first | subst ea_ | (injection ea_ with ea_; subst ea_)); subst ec_; clear en_)); have cx := mk_ bD; have dr := mk_ bE; clear bD cw bE; have cL := mk_ (show (d E ∨ w.heap.size ≤ E) from (g.out.1 _ rfl)); obtain ⟨cM, cN⟩ := Kd.R_celln 0 g.out (a : Int) bA bB; replace bA := eq_true bA; replace bB := eq_true bB; obtain ⟨dh, di⟩ := Kd.R_celln 0 g.out (a : Int) (oa_) (oa_); have a6 := Kd.R_putg g.out (a : Int) 0) | ((with_reducible refine gate_store (t := 3) (p := 74) rfl ?_); refine store_event (t := 3) (p := 74) (v := ?vo_w44) (w1 := (cm.setCell ⟨E, (a : Int).toNat, none⟩ (.int .i64 0))) ?hg ?ho ?hn ?hr ?_; (case ho => rfl); (case hg => rfl); (case hn => rfl); (case hr => first | (go_simp; done) | (go_simp; rfl)); intro bF hw; have hg : cm.grownBy bF (some E) := (by rw [hw]; exact a6.2); have al : Kd.R (Kd.int .i64) 3 bF w0.heap.size (fun k_ => (d k_ ∨ w.heap.size ≤ k_)) (.slice (some ⟨E, 0, none⟩) q.length T) P := (by rw [hw, cc.out]; exact a6.1); clear a6; replace c := mk_ (Kd.R_over' (v := (.slice (some ⟨E, 0, none⟩) q.length T)) (Kd.R_below c.out lt_) (Kd.R_typed g.out) (by decide) hg); replace l := mk_ (Kd.R_over' (v := (.slice (some ⟨E, 0, none⟩) q.length T)) (Kd.R_below l.out lt_) (Kd.R_typed g.out) (by decide) hg); replace HB := mk_ ((by rw [hw]; exact below_set (HB.out) cx.out : Below w0.heap.size w0 bF)); replace HK := mk_ (Kept.of_grown (S := (fun k_ => d k_)) hg (kp_ HK.out) (fun k_ e_ => (g.out.1 k_ e_))); replace g := mk_ (al); clear hg hw al) | ((with_reducible refine gate_dst (N := 75) rfl ?_); refine Kd.R_lit (Kd.int .i64) _ 3 ?hg (N := 75) ?hd (xs := ([] : List Int)) (inner := []) (ok := fun _ => True) (okp := fun _ => True) ?hr ?hp (fun _ hk => hk) trivial (Below.refl _ _) (Nat.le_refl _) (by simp) ?_; (case hd => rfl); (case hg => rfl); (case hr => first | (go_simp; done) | (go_simp; rfl)); (case hp => exact (Reps.none _ _)); intro cy dI ah hb a3 U; clear a3 U; (first | rw [← bk.out] at ah | (simp only [Int.reduceToNat] at ah; rw [← bk.out] at ah)); replace c := mk_ (Kd.R_below (Kd.R_below c.out lt_) hb); replace l := mk_ (Kd.R_below (Kd.R_below l.out lt_) hb); have X := mk_ (Kd.R_lower (Kd.R_new' (Kd.R_newM (M := fun k_ => (d k_ ∨ w.heap.size ≤ k_)) ah (kp_ HK.out).1 (fun k_ h_ => .inr h_)) (Kd.R_lt (Kd.R_below g.out lt_))) (below_size (below_at HB.out))); replace g := mk_ (Kd.R_elder' (Kd.R_below g.out lt_) (Kd.R_base ah) hb); replace HK := mk_ (Kept.below (S := (fun k_ => d k_)) (kp_ HK.out) hb); replace HB := hs_ HB hb; clear hb ah) | ((with_reducible refine gate_builtin (b := .append) (xs := #[.tmp 75, .tmp 76]) rfl ?_); at_builtin; refine Kd.R_append_rows (Kd.int .i64) (w0 := w0) w0.heap.size rfl (.tmp 75) (.tmp 76) 103 3 (.int .i64 0) 8 rfl Tryd.underlying103 info3 rfl (by decide) (by omega) cy I r _ _ _ (fun k_ => (d k_ ∨ w.heap.size ≤ k_) ∧ some k_ ≠ (.slice (some ⟨E, 0, none⟩) q.length T : Value).ownBlock) (fun _ => False) rfl rfl ?aO ?aR (fun _ _ h => h) (fun _ h => h.elim) ?aF ?aB ?aS ?aL ?_; (case aR => exact Kd.C_kept_now aj.out (kp_ HK.out)); (case aB => exact (below_at HB.out)); (case aF => exact (fun k_ hk => ⟨(.inr (Nat.le_trans (kp_ HK.out).1 hk)), Kd.fresh' (Kd.R_lt (Kd.R_below g.out lt_)) k_ hk⟩)); (case aO => exact (Kd.R_below (Kd.R_mono X.out (fun _ hk => ⟨hk.1.1, hk.2⟩)) lt_)); (case aS => exact (below_size (below_at HB.out))); (case aL => have := cd.out; omega); intro ds cn ho hb hg hat; rw [← ce.out] at ho; replace c := mk_ (Kd.R_over' (Kd.R_below c.out lt_) (Kd.R_typed (Kd.R_below X.out lt_)) (by decide) hg); replace l := mk_ (Kd.R_over' (Kd.R_below l.out lt_) (Kd.R_typed (Kd.R_below X.out lt_)) (by decide) hg); replace g := mk_ (Kd.R_after (ok := (fun k_ => (d k_ ∨ w.heap.size ≤ k_))) (Kd.R_below g.out lt_) hg hat); replace HB := mk_ (hb); replace HK := mk_ (Kept.of_grown (S := (fun k_ => d k_)) hg (kp_ HK.out) (fun k_ e_ => (X.out.1 k_ e_).1.1)); have m := mk_ (ho); (try clear X); clear ho hb hg hat; have bG : 0 ≤ (a : Int) := oa_; have bH : (a : Int) < ((n.length : Int) : Int) := oa_; obtain ⟨K, ai, bI, bJ, cz, du, bK⟩ := Kd.R_form m.out (by omega); (first | cases bI | (injection bI with ea_ en_ ec_; (first | subst ea_ | (injection ea_ with ea_; subst ea_)); subst ec_; clear en_)); have cA := mk_ bJ; have dv := mk_ bK; clear bJ cz bK; have cO := mk_ (show (d K ∨ w.heap.size ≤ K) from (m.out.1 _ rfl).1); obtain ⟨cP, cQ⟩ := Kd.R_celln 0 m.out (a : Int) bG bH; replace bG := eq_true bG; replace bH := eq_true bH; obtain ⟨dj, dk⟩ := Kd.R_celln 0 m.out (a : Int) (oa_) (oa_); have a7 := Kd.R_putg m.out (a : Int) 1) | ((with_reducible refine gate_store (t := 3) (p := 80) rfl ?_); refine store_event (t := 3) (p := 80) (v := ?vo_w49) (w1 := (cn.setCell ⟨K, (a : Int).toNat, none⟩ (.int .i64 1))) ?hg ?ho ?hn ?hr ?_; (case ho => rfl); (case hg => rfl); (case hn => rfl); (case hr => first | (go_simp; done) | (go_simp; rfl)); intro bL hw; have hg : cn.grownBy bL (some K) := (by rw [hw]; exact a7.2); have al : Kd.R (Kd.int .i64) 3 bL w0.heap.size (fun k_ => (d k_ ∨ w.heap.size ≤ k_) ∧ some k_ ≠ (.slice (some ⟨E, 0, none⟩) q.length T : Value).ownBlock) (.slice (some ⟨K, 0, none⟩) n.length ai) ab := (by rw [hw, cf.out]; exact a7.1); clear a7; replace c := mk_ (Kd.R_over' (v := (.slice (some ⟨K, 0, none⟩) n.length ai)) (Kd.R_below c.out lt_) (Kd.R_typed m.out) (by decide) hg); replace l := mk_ (Kd.R_over' (v := (.slice (some ⟨K, 0, none⟩) n.length ai)) (Kd.R_below l.out lt_) (Kd.R_typed m.out) (by decide) hg); replace g := mk_ (Kd.R_after (v := (.slice (some ⟨K, 0, none⟩) n.length ai)) (v1 := (.slice (some ⟨K, 0, none⟩) n.length ai)) (ok := (fun k_ => (d k_ ∨ w.heap.size ≤ k_))) (Kd.R_below g.out lt_) hg (.inl rfl)); replace HB := mk_ ((by rw [hw]; exact below_set (HB.out) cA.out : Below w0.heap.size w0 bL)); replace HK := mk_ (Kept.of_grown (S := (fun k_ => d k_)) hg (kp_ HK.out) (fun k_ e_ => (m.out.1 k_ e_).1)); replace m := mk_ (al); clear hg hw al; obtain ⟨a8, a9, cB⟩ := Kd.R_slice l.out; subst cB) | ((with_reducible refine gate_callee (f := 77) rfl ?_); refine goesL_ (some 87) rfl rfl Tryd.func77 (by kernel_rfl) rfl #[.int .i64 B, .slice A1 l1.length c1, .slice A2 x.length c2, .slice (some ⟨E, 0, none⟩) P.length T, .slice a8 aa.length a9] rfl (by (try simp only [List.map_toArray, List.map_cons, List.map_nil]); first | done | (rw [show P.length = q.length from (Kd.R_reads' g.out).1.symm] <;> rfl) | rfl | (simp only [List.length_drop, List.length_take]; rfl)) ?_; (with_reducible refine (ih k2 (by have := ak.out; have := aK.out; omega) B _ _ l1 _ _ x _ _ P (fun k_ => some k_ = (.slice a8 aa.length a9 : Value).ownBlock) (.slice a8 aa.length a9) aa aA ac cq w0 _ ?side1 ?side2 ?side3 ?side4 ?side5 ?side6 ?side7 ?side8 cJ.out).mono ?_); (case side1 => exact below_at HB.out); (case side2 => exact Kd.C_kept_call aE.out (kp_ HK.out) (fun k_ hs_ => (fun e_ => (l.out.1 k_ e_.symm).1) hs_)); (case side3 => exact aG.out); (case side4 => exact Kd.C_kept_call aH.out (kp_ HK.out) (fun k_ hs_ => (fun e_ => (l.out.1 k_ e_.symm).1) hs_)); (case side5 => exact aI.out); (case side6 => first | exact Kd.C_kept_own ((Kd.R_apart' g.out (Kd.R_typed l.out) (by decide))) (fun k_ hk_ hs_ => (hk_.2) hs_) | (rw [show P.length = q.length from (Kd.R_reads' g.out).1.symm]; exact Kd.C_kept_own ((Kd.R_apart' g.out (Kd.R_typed l.out) (by decide))) (fun k_ hk_ hs_ => (hk_.2) hs_))); (case side7 => rw [show P.length = q.length from (Kd.R_reads' g.out).1.symm]; exact (Kd.R_reads' g.out).2.1); (case side8 => exact Kd.R_tight rfl l.out); rintro e dJ ⟨cC, rfl, aM, hb, hkp⟩; refine ⟨_, rfl, ?_⟩; replace m := mk_ (Kd.R_mono (ok' := fun k_ => (d k_ ∨ w.heap.size ≤ k_) ∧ some k_ ≠ (.slice (some ⟨E, 0, none⟩) q.length T : Value).ownBlock) (Kd.R_keptB ((Kd.R_apart' m.out (Kd.R_typed l.out) (by decide))) hkp (fun k_ hk_ hs_ => (hk_.2) hs_)) (fun k_ hk_ => ⟨hk_.1.1.1, hk_.1.1.2⟩)); have D := mk_ (Kd.R_mono (ok' := fun k_ => (d k_ ∨ w.heap.size ≤ k_) ∧ some k_ ≠ (.slice ae i.length af : Value).ownBlock) aM (fun k_ hk_ => ⟨Or.elim hk_ (fun hs_ => (l.out.1 k_ (hs_).symm).1) (fun hn_ => (.inr (Nat.le_trans (kp_ HK.out).1 hn_))), Or.elim hk_ (fun hs_ => fun e_ => (((c.out).1 k_ e_.symm).2) hs_) (fun hn_ => (Kd.fresh' (Kd.R_lt (Kd.R_below c.out lt_)) k_ hn_))⟩)); replace c := mk_ (Kd.R_mono (ok' := fun k_ => (d k_ ∨ w.heap.size ≤ k_) ∧ some k_ ≠ (cC : Value).ownBlock) (Kd.R_keptB (c.out) hkp (fun k_ hk_ hs_ => (hk_.2) hs_)) (fun k_ hk_ => ⟨hk_.1.1, fun e_ => Or.elim (aM.1 k_ e_.symm) (fun hs_ => hk_.2.1 hs_) (fun hn_ => Nat.not_le.2 hk_.2.2 hn_)⟩)); replace HK := mk_ (Kept.then_ (S := (fun k_ => d k_)) (kp_ HK.out) hkp (fun k_ hs_ => (fun e_ => (l.out.1 k_ e_.symm).1) hs_)); replace HB := mk_ (hb); (try clear g l); (try clear hb); (try clear hkp); (try clear aM); obtain ⟨ba, bb, cD⟩ := Kd.R_slice D.out; subst cD) | ((with_reducible refine gate_callee (f := 77) rfl ?_); refine goesL_ (some 97) rfl rfl Tryd.func77 (by kernel_rfl) rfl #[.int .i64 B, .slice A1 l1.length c1, .slice A2 x.length c2, .slice (some ⟨K, 0, none⟩) ab.length ai, .slice ba aA.length bb] rfl (by (try simp only [List.map_toArray, List.map_cons, List.map_nil]); first | done | (rw [show ab.length = n.length from (Kd.R_reads' m.out).1.symm] <;> rfl) | rfl | (simp only [List.length_drop, List.length_take]; rfl)) ?_; (with_reducible refine (ih k2 (by have := ak.out; have := aK.out; omega) B _ _ l1 _ _ x _ _ ab (fun k_ => some k_ = (.slice ba aA.length bb : Value).ownBlock) (.slice ba aA.length bb) aA y ad cr w0 _ ?side1 ?side2 ?side3 ?side4 ?side5 ?side6 ?side7 ?side8 cK.out).mono ?_); (case side1 => exact below_at HB.out); (case side2 => exact Kd.C_kept_call aE.out (kp_ HK.out) (fun k_ hs_ => (fun e_ => (D.out.1 k_ e_.symm).1) hs_)); (case side3 => exact aG.out); (case side4 => exact Kd.C_kept_call aH.out (kp_ HK.out) (fun k_ hs_ => (fun e_ => (D.out.1 k_ e_.symm).1) hs_)); (case side5 => exact aI.out); (case side6 => first | exact Kd.C_kept_own ((Kd.R_apart' m.out (Kd.R_typed D.out) (by decide))) (fun k_ hk_ hs_ => (hk_.2) hs_) | (rw [show ab.length = n.length from (Kd.R_reads' m.out).1.symm]; exact Kd.C_kept_own ((Kd.R_apart' m.out (Kd.R_typed D.out) (by decide))) (fun k_ hk_ hs_ => (hk_.2) hs_))); (case side7 => rw [show ab.length = n.length from (Kd.R_reads' m.out).1.symm]; exact (Kd.R_reads' m.out).2.1); (case side8 => exact Kd.R_tight rfl D.out); rintro e Y ⟨dw, rfl, aM, hb, hkp⟩; refine ⟨_, rfl, ?_⟩; have A := mk_ (Kd.R_mono (ok' := fun k_ => (d k_ ∨ w.heap.size ≤ k_) ∧ some k_ ≠ (.slice ae i.length af : Value).ownBlock) aM (fun k_ hk_ => ⟨Or.elim hk_ (fun hs_ => (D.out.1 k_ (hs_).symm).1) (fun hn_ => (.inr (Nat.le_trans (kp_ HK.out).1 hn_))), Or.elim hk_ (fun hs_ => fun e_ => (((c.out).1 k_ e_.symm).2) hs_) (fun hn_ => (Kd.fresh' (Kd.R_lt (Kd.R_below c.out lt_)) k_ hn_))⟩)); replace HK := mk_ (Kept.then_ (S := (fun k_ => d k_)) (kp_ HK.out) hkp (fun k_ hs_ => (fun e_ => (D.out.1 k_ e_.symm).1) hs_)); replace HB := mk_ (hb); (try clear c g m D); (try clear hb); (try clear hkp); (try clear aM); have bM : 0 ≤ ((i.length : Int) : Int) := oa_; have bN : ((i.length : Int) : Int) < ((y.length : Int) : Int) := oa_; obtain ⟨u, bO, bP, bQ, cE, dx, bR⟩ := Kd.R_form A.out (by omega); (first | cases bP | (injection bP with ea_ en_ ec_; (first | subst ea_ | (injection ea_ with ea_; subst ea_)); subst ec_; clear en_)); have bc := mk_ bQ; have dy := mk_ bR; clear bQ cE bR; have cR := mk_ (show (d u ∨ w.heap.size ≤ u) from (A.out.1 _ rfl).1); obtain ⟨dz, ch, bS, av, aw⟩ := Kd.R_elem A.out z68 ((i.length : Int) : Int) bM bN; obtain rfl := k68_openM bS; have cS : Y.cell? ⟨u, i.length * 3, none⟩ = some (.int .i64 ((rd_T68 y (i.length : Int)).f0)) := av 0 _ rfl; have cT : Y.cell? ⟨u, i.length * 3 + 1, none⟩ = some (.int .i64 ((rd_T68 y (i.length : Int)).f1)) := av 1 _ rfl; have cU : Y.cell? ⟨u, i.length * 3 + 2, none⟩ = some (.int .i64 ((rd_T68 y (i.length : Int)).f2)) := av 2 _ rfl; have cV : Y.frozen? ⟨u, i.length * 3, none⟩ = false := aw 0; have cW : Y.frozen? ⟨u, i.length * 3 + 1, none⟩ = false := aw 1; have cX : Y.frozen? ⟨u, i.length * 3 + 2, none⟩ = false := aw 2; (try clear bS); clear ch av aw; replace bM := eq_true bM; replace bN := eq_true bN; have bT := mk_ (show Kd.R k68 68 Y w0.heap.size (fun k_ => (d k_ ∨ w.heap.size ≤ k_) ∧ some k_ ≠ (.slice ae i.length af : Value).ownBlock) (.slice (some ⟨u, 0, none⟩) y.length bO) y from (Kd.R_below A.out lt_)); obtain ⟨dA, bn, bU, Z, ax⟩ := Kd.R_elem bT.out z68 ((i.length : Int) : Int) (oa_) (by have h_ : ((i.length : Int) : Int) < ((y.length : Int) : Int) := oa_; first | exact h_ | (have e_ := (Kd.R_reads' A.out).1; omega) | simpa using h_); obtain rfl := k68_openM bU; have be := Kd.R_seg bT.out ((i.length : Int) : Int) (oa_) (by have h_ : ((i.length : Int) : Int) < ((y.length : Int) : Int) := oa_; first | exact h_ | (have e_ := (Kd.R_reads' A.out).1; omega) | simpa using h_) (seg := [.int .i64 a, .int .i64 ac, .int .i64 ad]) (j := 0) bn Z (show 3 ≤ 3 from by decide) (x' := (⟨a, ac, ad⟩ : S68)) (k68_mkM _ _ _ (⟨a, ac, ad⟩ : S68) ) (fun _ hk => hk); have bV := Z 0 _ rfl; (try simp only [show (k68).sz = 3 from rfl, Nat.mul_one, Nat.add_zero, Int.toNat_natCast] at bV); have bW := ax 0; (try simp only [show (k68).sz = 3 from rfl, Nat.mul_one, Nat.add_zero, Int.toNat_natCast] at bW); have bX := Z 1 _ rfl; (try simp only [show (k68).sz = 3 from rfl, Nat.mul_one, Nat.add_zero, Int.toNat_natCast] at bX); have bY := ax 1; (try simp only [show (k68).sz = 3 from rfl, Nat.mul_one, Nat.add_zero, Int.toNat_natCast] at bY); have bZ := Z 2 _ rfl; (try simp only [show (k68).sz = 3 from rfl, Nat.mul_one, Nat.add_zero, Int.toNat_natCast] at bZ); have b0 := ax 2; (try simp only [show (k68).sz = 3 from rfl, Nat.mul_one, Nat.add_zero, Int.toNat_natCast] at b0); (try clear bU); clear bn Z ax) | ((with_reducible refine gate_store (t := 68) (p := 107) rfl ?_); refine store_event (t := 68) (p := 107) (v := ?vo_w55) (w1 := (((Y.setCell ⟨u, i.length * 3, none⟩ (.int .i64 a)).setCell ⟨u, i.length * 3 + 1, none⟩ (.int .i64 ac)).setCell ⟨u, i.length * 3 + 2, none⟩ (.int .i64 ad))) ?hg ?ho ?hn ?hr ?_; (case ho => rfl); (case hg => rfl); (case hn => rfl); (case hr => first | (go_simp; done) | (go_simp; rfl)); intro b1 hw; have hg : Y.grownBy b1 (some u) := (by rw [hw]; exact be.2); have al : Kd.R k68 68 b1 w0.heap.size (fun k_ => (d k_ ∨ w.heap.size ≤ k_) ∧ some k_ ≠ (.slice ae i.length af : Value).ownBlock) (.slice (some ⟨u, 0, none⟩) y.length bO) J := (by rw [hw, cg.out]; exact be.1); clear be; replace HB := mk_ ((by rw [hw]; exact below_set (below_set (below_set (HB.out) bc.out) bc.out) bc.out : Below w0.heap.size w0 b1)); replace HK := mk_ (Kept.of_grown (S := (fun k_ => d k_)) hg (kp_ HK.out) (fun k_ e_ => (A.out.1 k_ e_).1)); replace A := mk_ (al); (try clear c g m); clear hg hw al))
   revert H; refine ib_ ?_ ?_ <;> rintro rfl H
   ·simp only [Option.some.injEq, Prod.mk.injEq] at H
    obtain ⟨rfl, rfl, rfl⟩ := H
    go_wp2
    go_ret3
    exact ⟨_, er_, by (with_reducible repeat (first | apply Kd.R_alloc | apply Kd.R_drewN | apply Kd.R_drew)); exact Kd.R_mono A.out (fun _ hk => hk.1), below_at HB.out, kp_ HK.out⟩
   simp only [Option.some.injEq, Prod.mk.injEq] at H
   obtain ⟨rfl, rfl, rfl⟩ := H
   go_wp2
   go_ret3
   exact ⟨_, er_, by (with_reducible repeat (first | apply Kd.R_alloc | apply Kd.R_drewN | apply Kd.R_drew)); exact Kd.R_mono A.out (fun _ hk => hk.1), below_at HB.out, kp_ HK.out⟩
def spec_FindProof.j0 : Nat → Int → List (S79) → List (S82) → Bool → Option (Int × (List (S68)) × Bool)
 | 0, _, _, _, _ => none
 | k + 1, x0, x1, x2, x20 => if x20 = true then (some (0, ([] : List (S68)), false)) else ((spec_l11Nothing.f k x0).bind fun t436 => ((spec_l11Grow.f k x0 x1 x2 t436 (([] : List (S68)))).bind fun bt442 => (if bt442.2.2 = true then (some (bt442.2.1, bt442.1, true)) else (some (0, ([] : List (S68)), false)))))
def spec_FindProof.f (k : Nat) (a0 : Int) (l1 : List (S79)) (l2 : List (S82)) : Option (Int × (List (S68)) × Bool) := (spec_StoryOk.f k a0 l1).bind fun t434 => (if t434 = true then ((spec_TermOk.f k a0 l2).bind fun t435 => (spec_FindProof.j0 k a0 l1 l2 (!t435))) else (spec_FindProof.j0 k a0 l1 l2 true))
theorem spec_FindProof.calls (k : Nat) (g : Int) (J : Option Addr) (x : Nat) (l1 : List (S79)) (U : Option Addr) (c2 : Nat) (m : List (S82)) (W : Int) (X : List (S68)) (Y : Bool) (w : World) (aa : Kd.C k79 w J l1.length l1) (ab : l1.length ≤ x) (ac : Kd.C k82 w U m.length m) (ad : m.length ≤ c2) (h : spec_FindProof.f k g l1 m = some (W, X, Y)) :
  Calls Tryd.prog 54 #[.int .i64 g, .slice J l1.length x, .slice U m.length c2] w fun e w' => ∃ ae : Value, e = .returned (.tuple #[.agg #[.int .i64 W, ae], .bool Y]) ∧ Kd.R k68 68 w' w.heap.size (fun _ => True) ae X ∧ Below w.heap.size w w' := by
 have aM := Tryd.underlying27
 have E := mk_ aa
 have G := mk_ ab
 clear aa ab
 have K := mk_ ac
 have L := mk_ ad
 clear ac ad
 have HB := mk_ (Below.refl w.heap.size w)
 unfold spec_FindProof.f at h
 have H := h
 clear h
 have M := mk_ H
 clear H
 go_enter Tryd.func54, Tryd.ntmps54
 go_upto_region 1 with (first | ((with_reducible refine gate_dst (N := 6) rfl ?_); refine gx_ 6 #[.int .i64 0, .slice none 0 0] 27 ?_; intro i hg w5 O hb; have a := mk_ (O); have Z := gm_ hg HB.out; have aL := Z; replace HB := hs_ HB hb; clear hb O hg))
 (try simp only [Act.put, z0_, z1_, z2_])
 go_cut [20] (fun aJ wc => ∃ (kq : Nat) (q : Bool), aJ = .bool q ∧ Aside0 (spec_FindProof.j0 kq g l1 m q = some (W, X, Y)) ∧ Aside0 (kq ≤ k) ∧ Aside0 (wc.heap[i]? = some (.cells #[.int .i64 0, (.slice none 0 0)] 27 (0, 0))) ∧ Aside0 (Below w.heap.size w wc))
 case first =>
  have H := M.out
  clear M
  revert H; refine bd_ fun aN A6 H => ?_
  try dsimp only at H
  revert H; refine bi_ ?_ ?_ <;> rintro rfl H
  ·have H' := mk_ H
   clear H
   go_wp2_with (first | ((with_reducible refine gate_callee (f := 57) rfl ?_); refine gc_ 57 (some 13) Tryd.func57 #[.int .i64 g, .slice J l1.length x] ?_; (with_reducible refine mo_ (spec_StoryOk.calls k g _ _ l1 false _ ?side1 ?side2 A6.out) ?_); (case side1 => exact Kd.C_below (Kd.C_below E.out HB.out) lt_); (case side2 => exact G.out); intro aQ hb; replace a := mk_ (blk_at a.out hb); replace HB := ht_ HB hb; (try clear hb)))
   go_meet
   case rel => exact ⟨_, (true), sm_, H', ⟨by first | omega | exact Nat.le_refl _⟩, ⟨by refine bs_ ?_; exact a.out⟩, ⟨at_ HB.out⟩⟩
  revert H; refine bd_ fun P A8 H => ?_
  try dsimp only at H
  have H' := mk_ H
  clear H
  go_wp2_with (first | ((with_reducible refine gate_callee (f := 57) rfl ?_); refine gc_ 57 (some 13) Tryd.func57 #[.int .i64 g, .slice J l1.length x] ?_; (with_reducible refine mo_ (spec_StoryOk.calls k g _ _ l1 true _ ?side1 ?side2 A6.out) ?_); (case side1 => exact Kd.C_below (Kd.C_below E.out HB.out) lt_); (case side2 => exact G.out); intro w9 hb; replace a := mk_ (blk_at a.out hb); replace HB := ht_ HB hb; (try clear hb)) | (go_at_call 58; (with_reducible refine (spec_TermOk.calls k g _ _ m P _ ?side1 ?side2 A8.out).mono ?_); (case side1 => exact Kd.C_below (Kd.C_below K.out HB.out) lt_); (case side2 => exact L.out); rintro e w' ⟨rfl, ⟨nd, rfl⟩⟩))
  go_meet
  case rel => exact ⟨_, (!P), sm_, H', ⟨by first | omega | exact Nat.le_refl _⟩, ⟨by refine bs_ ?_; exact a.out⟩, ⟨at_ HB.out⟩⟩
 clear M
 try clear x
 try clear c2
 obtain ⟨kq, q, rfl, HA, aR, a, HB⟩ := hcut
 cases kq with
 | zero => exact absurd HA.out (by simp [spec_FindProof.j0])
 | succ v =>
  have H := HA.out
  clear HA
  simp only [spec_FindProof.j0] at H
  revert H; refine ib_ ?_ ?_ <;> rintro rfl H
  ·simp only [Option.some.injEq, Prod.mk.injEq] at H
   obtain ⟨rfl, rfl, rfl⟩ := H
   have ax : wc.cell? ⟨i, 0, none⟩ = some (.int .i64 0) := (blk_cell a.out 0).trans rfl
   have ay : wc.cell? ⟨i, 1, none⟩ = some (.slice none 0 0) := (blk_cell a.out 1).trans rfl
   have az := blk_frozen a.out 0
   have aA := blk_frozen a.out 1
   go_wp2
   refine bodyPost_ret (results_ct rfl _ _ i 27 #[.int .i64 0, .slice none 0 0] (0, 0) _ rfl (by refine bs_ ?_; refine blk_put (cs := #[.int .i64 0, .slice none 0 0]) ?_ 1 _ rfl; refine bs_ ?_; refine blk_put (cs := #[.int .i64 0, .slice none 0 0]) ?_ 0 _ rfl; refine bs_ ?_; exact a.out) Tryd.underlying27 rfl (by kernel_rfl)) rfl ?_
   exact ⟨_, er_, by first | exact Kd.R_nil _ _ _ _ _ | exact Kd.N_nil _ _ _ _ _ | exact Kd.V_nil _ _ _ _ _ | exact Kd.Q_nil _ _ _ _ _ | exact Kd.S_nil _ _ _ _ _, at_ HB.out⟩
  revert H; refine bd_ fun l af H => ?_
  try dsimp only at H
  obtain ⟨d, r⟩ : ∃ y_ : List (S68), y_ = (([] : List (S68))) := ⟨_, rfl⟩
  replace H : ((spec_l11Grow.f v g l1 m l d).bind fun s => (if s.2.2 = true then (some (s.2.1, s.1, true)) else (some (0, ([] : List (S68)), false)))) = some (W, X, Y) := by first | (rw [r]; exact H) | exact H
  have n := mk_ r
  clear r
  replace H := bm_ H; obtain ⟨⟨y, t, aP⟩, ag, H⟩ := H
  try dsimp only at H
  revert H; refine bi_ ?_ ?_ <;> rintro rfl H
  ·simp only [Option.some.injEq, Prod.mk.injEq] at H
   obtain ⟨rfl, rfl, rfl⟩ := H
   go_wp2_with (first | ((with_reducible refine gate_callee (f := 60) rfl ?_); refine gc_ 60 (some 27) Tryd.func60 #[.int .i64 g] ?_; (with_reducible refine (spec_l11Nothing.calls v g l _ af.out).mono ?_); rintro e aS ⟨ah, rfl, j, hb⟩; refine ⟨_, rfl, ?_⟩; have c := mk_ (Kd.R_lower j (below_size (at_ HB.out))); replace a := mk_ (blk_at a.out hb); replace HB := ht_ HB hb; (try clear hb); (try clear j)) | ((with_reducible refine gate_dst (N := 28) rfl ?_); refine Kd.R_lit k68 _ 68 ?hg (N := 28) ?hd (xs := ([] : List (S68))) (inner := []) (ok := fun _ => True) (okp := fun _ => True) ?hr ?hp (fun _ hk => hk) trivial (Below.refl _ _) (Nat.le_refl _) (by simp) ?_; (case hd => rfl); (case hg => rfl); (case hr => first | (go_simp; done) | (go_simp; rfl)); (case hp => exact (Reps.none _ _)); intro ai aT o hb T u; clear T u; (first | rw [← n.out] at o | (simp only [Int.reduceToNat] at o; rw [← n.out] at o)); replace c := mk_ (Kd.R_below (Kd.R_below c.out lt_) hb); have b := mk_ (Kd.R_lower o (below_size (at_ HB.out))); replace a := mk_ (blk_at a.out hb); replace HB := ht_ HB hb; clear hb o; obtain ⟨aj, ak, al⟩ := Kd.R_slice c.out; subst al; obtain ⟨z, A, am⟩ := Kd.R_slice b.out; subst am) | ((with_reducible refine gate_callee (f := 77) rfl ?_); refine gc_ 77 (some 29) Tryd.func77 #[.int .i64 g, .slice J l1.length x, .slice U m.length c2, .slice aj l.length ak, .slice z d.length A] ?_; (with_reducible refine (spec_l11Grow.calls v g _ _ l1 _ _ m _ _ l (fun k_ => some k_ = (.slice z d.length A : Value).ownBlock) (.slice z d.length A) d y t false w _ ?side1 ?side2 ?side3 ?side4 ?side5 ?side6 ?side7 ?side8 ag.out).mono ?_); (case side1 => exact at_ HB.out); (case side2 => exact Kd.C_kept_came k79_heap E.out (at_ HB.out) (fun k_ hs_ => (fun e_ => Kd.R_base b.out k_ e_.symm) hs_)); (case side3 => exact G.out); (case side4 => exact Kd.C_kept_came k82_heap K.out (at_ HB.out) (fun k_ hs_ => (fun e_ => Kd.R_base b.out k_ e_.symm) hs_)); (case side5 => exact L.out); (case side6 => exact Kd.C_kept_own ((Kd.R_apart' c.out (Kd.R_typed b.out) (by decide))) (fun k_ hk_ hs_ => (hk_.2) hs_)); (case side7 => exact (Kd.R_reads' c.out).2.1); (case side8 => exact Kd.R_tight rfl b.out); rintro e aU ⟨an, rfl, j, hb, hkp⟩; refine ⟨_, rfl, ?_⟩; replace a := mk_ (blk_kept (bk_ a.out) hkp (fun hs_ => (fun e_ => (Kd.R_ne b.out a.out (by decide)) e_) hs_)); replace HB := mk_ (hb); (try clear c b); (try clear hb); (try clear hkp); (try clear j); obtain ⟨aB, aC, aD, aE⟩ := b2_ a))
   refine bodyPost_ret (results_ct rfl _ _ i 27 #[.int .i64 0, .slice none 0 0] (0, 0) _ rfl (by refine bs_ ?_; refine blk_put (cs := #[.int .i64 0, .slice none 0 0]) ?_ 1 _ rfl; refine bs_ ?_; refine blk_put (cs := #[.int .i64 0, .slice none 0 0]) ?_ 0 _ rfl; refine bs_ ?_; exact a.out) Tryd.underlying27 rfl (by kernel_rfl)) rfl ?_
   exact ⟨_, er_, by first | exact Kd.R_nil _ _ _ _ _ | exact Kd.N_nil _ _ _ _ _ | exact Kd.V_nil _ _ _ _ _ | exact Kd.Q_nil _ _ _ _ _ | exact Kd.S_nil _ _ _ _ _, at_ HB.out⟩
  simp only [Option.some.injEq, Prod.mk.injEq] at H
  obtain ⟨rfl, rfl, rfl⟩ := H
  go_wp2_with (first | ((with_reducible refine gate_callee (f := 60) rfl ?_); refine gc_ 60 (some 27) Tryd.func60 #[.int .i64 g] ?_; (with_reducible refine (spec_l11Nothing.calls v g l _ af.out).mono ?_); rintro e aV ⟨ah, rfl, j, hb⟩; refine ⟨_, rfl, ?_⟩; have c := mk_ (Kd.R_lower j (below_size (at_ HB.out))); replace a := mk_ (blk_at a.out hb); replace HB := ht_ HB hb; (try clear hb); (try clear j)) | ((with_reducible refine gate_dst (N := 28) rfl ?_); refine Kd.R_lit k68 _ 68 ?hg (N := 28) ?hd (xs := ([] : List (S68))) (inner := []) (ok := fun _ => True) (okp := fun _ => True) ?hr ?hp (fun _ hk => hk) trivial (Below.refl _ _) (Nat.le_refl _) (by simp) ?_; (case hd => rfl); (case hg => rfl); (case hr => first | (go_simp; done) | (go_simp; rfl)); (case hp => exact (Reps.none _ _)); intro ai aW p hb T u; clear T u; (first | rw [← n.out] at p | (simp only [Int.reduceToNat] at p; rw [← n.out] at p)); replace c := mk_ (Kd.R_below (Kd.R_below c.out lt_) hb); have b := mk_ (Kd.R_lower p (below_size (at_ HB.out))); replace a := mk_ (blk_at a.out hb); replace HB := ht_ HB hb; clear hb p; obtain ⟨ao, ap, aq⟩ := Kd.R_slice c.out; subst aq; obtain ⟨B, D, ar⟩ := Kd.R_slice b.out; subst ar) | ((with_reducible refine gate_callee (f := 77) rfl ?_); refine gc_ 77 (some 29) Tryd.func77 #[.int .i64 g, .slice J l1.length x, .slice U m.length c2, .slice ao l.length ap, .slice B d.length D] ?_; (with_reducible refine (spec_l11Grow.calls v g _ _ l1 _ _ m _ _ l (fun k_ => some k_ = (.slice B d.length D : Value).ownBlock) (.slice B d.length D) d y t true w _ ?side1 ?side2 ?side3 ?side4 ?side5 ?side6 ?side7 ?side8 ag.out).mono ?_); (case side1 => exact at_ HB.out); (case side2 => exact Kd.C_kept_came k79_heap E.out (at_ HB.out) (fun k_ hs_ => (fun e_ => Kd.R_base b.out k_ e_.symm) hs_)); (case side3 => exact G.out); (case side4 => exact Kd.C_kept_came k82_heap K.out (at_ HB.out) (fun k_ hs_ => (fun e_ => Kd.R_base b.out k_ e_.symm) hs_)); (case side5 => exact L.out); (case side6 => exact Kd.C_kept_own ((Kd.R_apart' c.out (Kd.R_typed b.out) (by decide))) (fun k_ hk_ hs_ => (hk_.2) hs_)); (case side7 => exact (Kd.R_reads' c.out).2.1); (case side8 => exact Kd.R_tight rfl b.out); rintro e aX ⟨an, rfl, j, hb, hkp⟩; refine ⟨_, rfl, ?_⟩; replace a := mk_ (blk_kept (bk_ a.out) hkp (fun hs_ => (fun e_ => (Kd.R_ne b.out a.out (by decide)) e_) hs_)); have I := mk_ (Kd.R_mono (ok' := fun k_ => True) j (fun k_ hk_ => trivial)); replace HB := mk_ (hb); (try clear c b); (try clear hb); (try clear hkp); (try clear j); obtain ⟨au, av, aw⟩ := Kd.R_slice I.out; subst aw; obtain ⟨aF, aG, aH, aI⟩ := b2_ a))
  refine bodyPost_ret (results_ct rfl _ _ i 27 #[.int .i64 t, .slice au y.length av] (0, 0) _ rfl (by refine bs_ ?_; refine blk_put (cs := #[.int .i64 t, .slice none 0 0]) ?_ 1 _ rfl; refine bs_ ?_; refine blk_put (cs := #[.int .i64 0, .slice none 0 0]) ?_ 0 _ rfl; refine bs_ ?_; exact a.out) Tryd.underlying27 rfl (by kernel_rfl)) rfl ?_
  exact ⟨_, er_, by (with_reducible repeat (first | apply Kd.R_alloc | apply Kd.R_drewN | apply Kd.R_drew)); exact Kd.R_mono (Kd.R_far (Kd.R_far (Kd.R_types I.out a.out (by decide)) (fun _ hk => hk.2) _) (fun _ hk => hk.2) _) (fun _ hk => trivial), at_ HB.out⟩
end Go.Proofs.YtcaogllnbpmcgaaDoor.P

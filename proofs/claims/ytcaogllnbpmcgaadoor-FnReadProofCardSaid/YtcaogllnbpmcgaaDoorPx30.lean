/- Go's functions come to just the answers of the Lean functions told here. -/
import Derived.Test.YtcaogllnbpmcgaaDoorPx23
import Derived.Test.YtcaogllnbpmcgaaDoorPx29
set_option maxHeartbeats 8000000
set_option maxRecDepth 100000
namespace Go.Proofs.YtcaogllnbpmcgaaDoor.P
open Go.RowKit Go.Proofs.YtcaogllnbpmcgaaDoorW.PrintWords Go.Proofs.YtcaogllnbpmcgaaDoorW.PrintLast Go.Proofs.YtcaogllnbpmcgaaDoorW.PrintMore
attribute [local go_sem] max2_int min2_int max_two min_two max_three min_three max_four min_four
set_option linter.unusedVariables false
set_option linter.unusedSimpArgs false
def spec_l20Open.f (l0 : List Int) : Option (List Int × Int) := if (l0.length : Int) > 2000 then (if 2000 ≤ (l0.length : Int) then (some (l0.take 2000, 0)) else (none)) else (some (l0, 0))
theorem spec_l20Open.calls (g : Option Addr) (i : Nat) (l0 : List Int) (z : List Int) (A : Int) (d w : World) (hB : Below d.heap.size d w) (q : Kd.C (Kd.int .u8) d g l0.length l0) (r : l0.length ≤ i) (h : spec_l20Open.f l0 = some (z, A)) :
  Calls Tryd.prog 30 #[.slice g l0.length i] w fun e w' => ∃ g_ : Nat, e = .returned (.pointer (some ⟨g_, 0, none⟩)) ∧ IsS99 d w' g_ z A ∧ Below d.heap.size d w' ∧ Below w.heap.size w w' := by
 have J := Tryd.underlying99
 have s := mk_ q
 have B := mk_ r
 clear q r
 have HBW := mk_ (Below.refl w.heap.size w)
 have t := mk_ hB.size
 have HB := mk_ hB
 clear hB
 unfold spec_l20Open.f at h
 have H := h
 clear h
 revert H; refine ti_ (fun c2 H => ?_) fun c2 H => ?_
 ·have x : decide (2000 < (l0.length : Int)) = false := decide_eq_false c2
  have y : decide (2000 < l0.length) = false := decide_eq_false (by omega)
  clear c2
  simp only [Option.some.injEq, Prod.mk.injEq] at H
  obtain ⟨rfl, rfl⟩ := H
  go_enter Tryd.func30, Tryd.ntmps30
  go_wp2_with (first | ((with_reducible refine gate_dst (N := 10) rfl ?_); refine gx_ 10 #[.slice g l0.length i, .int .i64 0] 99 ?_; intro a hg O c hb; replace HB := hs_ HB hb; have l := mk_ (c); have D := mk_ ((by rw [hg]; exact (below_size hu_) : w.heap.size ≤ a)); have m := mk_ ((Nat.le_trans t.out (by rw [hg]; exact (below_size hu_) : w.heap.size ≤ a) : d.heap.size ≤ a)); replace HBW := mk_ (below_step HBW.out hb); clear hb c hg))
  go_ret
  exact ⟨_, rfl, (show IsS99 d _ a l0 0 from ⟨_, _, by refine bs_ ?_; exact l.out, m.out, s.out⟩), hu_, hu_⟩
 have x : decide (2000 < (l0.length : Int)) = true := decide_eq_true c2
 have y : decide (2000 < l0.length) = true := decide_eq_true (by omega)
 clear c2
 revert H; refine g_ (et_ fun K L H => ?_)
 simp only [Option.some.injEq, Prod.mk.injEq] at H
 obtain ⟨rfl, rfl⟩ := H
 obtain ⟨M, j, _, k, _⟩ := info_parts info5
 obtain ⟨E, u, v⟩ := print_take_of (P := Tryd.prog) (Value.int .u8) 0 22 5 .i64 Tryd.underlying22 j k g i l0 2000 (by omega) (oa_) B.out
 have n := mk_ (Kd.C_of_reads (h1 := fun _ => rfl) (u _ (Kd.reads_of_C s.out)))
 have G := mk_ v
 clear u v j k
 go_enter Tryd.func30, Tryd.ntmps30
 go_wp2_with (first | ((with_reducible refine gate_dst (N := 10) rfl ?_); refine gx_ 10 #[.slice g (l0.take 2000).length i, .int .i64 0] 99 ?_; intro b hg T c hb; replace HB := hs_ HB hb; have o := mk_ (c); have I := mk_ ((by rw [hg]; exact (below_size hu_) : w.heap.size ≤ b)); have p := mk_ ((Nat.le_trans t.out (by rw [hg]; exact (below_size hu_) : w.heap.size ≤ b) : d.heap.size ≤ b)); replace HBW := mk_ (below_step HBW.out hb); clear hb c hg))
 go_ret
 exact ⟨_, rfl, (show IsS99 d _ b (l0.take 2000) 0 from ⟨_, _, by refine bs_ ?_; exact o.out, p.out, n.out⟩), hu_, hu_⟩
def spec_DrawReadProof.j0 : Nat → Int → List (S79) → List (S82) → ByteArray → Bool → List Int → Int → Option (Int × (List (S79)) × (List (S82)) × ByteArray)
 | 0, _, _, _, _, _, _, _ => none
 | k + 1, x7, x8, x9, x11, x34, x495000, x495001 => if x34 = true then ((spec_l20Rd_pick.f k x495000 x495001 (x11.size : Int)).bind fun bt511 => (if 0 ≤ bt511.1 then (if bt511.1 ≤ (x11.size : Int) then ((some (([(⟨#[]⟩ : ByteArray), (⟨#[40]⟩ : ByteArray), (⟨#[41]⟩ : ByteArray), (⟨#[44]⟩ : ByteArray), (⟨#[42]⟩ : ByteArray), (⟨#[48]⟩ : ByteArray), (⟨#[97, 40, 42, 44, 42, 41]⟩ : ByteArray), (⟨#[101]⟩ : ByteArray)] : List ByteArray) : List ByteArray)).bind fun y513 => ((spec_l20Rd_pick.f k x495000 bt511.2 8).bind fun bt516 => (if 0 ≤ bt516.1 then (if bt516.1 < (y513.length : Int) then (if (x11.extract 0 (bt511.1 : Int).toNat).size + (rdOf ByteArray.empty y513 bt516.1).size ≤ 9223372036854775807 then ((spec_l20Rd_pick.f k x495000 bt516.2 2).bind fun bt519 => (if 0 ≤ (wrap64 (bt511.1 + bt519.1)) then (if (wrap64 (bt511.1 + bt519.1)) ≤ (x11.size : Int) then (if ((x11.extract 0 (bt511.1 : Int).toNat) ++ (rdOf ByteArray.empty y513 bt516.1)).size + (x11.extract ((wrap64 (bt511.1 + bt519.1)) : Int).toNat x11.size).size ≤ 9223372036854775807 then (some (x7, x8, x9, ((x11.extract 0 (bt511.1 : Int).toNat) ++ (rdOf ByteArray.empty y513 bt516.1)) ++ (x11.extract ((wrap64 (bt511.1 + bt519.1)) : Int).toNat x11.size))) else (none)) else (none)) else (none))) else (none)) else (none)) else (none)))) else (none)) else (none))) else (some (x7, x8, x9, x11))
def spec_DrawReadProof.f (k : Nat) (l0 : List Int) : Option (Int × (List (S79)) × (List (S82)) × ByteArray) := (spec_l20Open.f l0).bind fun bt492 => ((spec_l20Proof.f k bt492.1 bt492.2 30).bind fun bt495 => ((spec_ProofText.f k bt495.1 bt495.2.1 bt495.2.2.1 bt495.2.2.2.1 bt495.2.2.2.2.1).bind fun t508 => ((spec_l20Rd_pick.f k bt492.1 bt495.2.2.2.2.2 3).bind fun bt509 => (if bt509.1 = 0 then (spec_DrawReadProof.j0 k bt495.1 bt495.2.1 bt495.2.2.1 t508 (decide ((t508.size : Int) > 0)) bt492.1 bt509.2) else (spec_DrawReadProof.j0 k bt495.1 bt495.2.1 bt495.2.2.1 t508 false bt492.1 bt509.2)))))
def spec_DrawReadProof.T6 : Bool × List (List Nat × List Nat) := (true, [([], []), ([], []), ([], []), ([], []), ([], []), ([3, 4], [3, 4]), ([], []), ([], []), ([7], [7]), ([6, 8], [6, 8]), ([9], [9]), ([5, 10], [5, 10]), ([], []), ([], []), ([], []), ([14, 8], [14]), ([13, 15], [13, 15]), ([12, 16], [12, 16]), ([11, 17], [11, 17]), ([0, 15, 0], [0]), ([1, 19, 0, 1, 19], [1]), ([2, 20, 0, 1, 2, 19, 20], [2]), ([18, 21, 0, 1, 2, 3, 4, 5, 6, 7, 8, 9, 10, 11, 12, 13, 14, 15, 16, 17, 18, 19, 20, 21], [18])])
def spec_DrawReadProof.B6 : List Nat := [0, 0, 0, 0, 0, 24, 0, 0, 128, 448, 960, 2040, 0, 0, 0, 16768, 57728, 127360, 262136, 49537, 573827, 1622407, 4194303]
theorem spec_DrawReadProof.tab6 : rtab .any (opsOf Tryd.f27 6) = spec_DrawReadProof.T6 := by kernel_rfl
theorem spec_DrawReadProof.bits6 : waitsOk spec_DrawReadProof.T6.2 spec_DrawReadProof.B6 = true := by kernel_rfl
theorem spec_DrawReadProof.calls (k : Nat) (A0 : Option Addr) (c0 : Nat) (l0 : List Int) (r1 : Int) (r2 : List (S79)) (r3 : List (S82)) (r4 : ByteArray) (w : World) (bx : Kd.C (Kd.int .u8) w A0 l0.length l0) (bz : l0.length ≤ c0) (h : spec_DrawReadProof.f k l0 = some (r1, r2, r3, r4)) :
  Calls Tryd.prog 27 #[.slice A0 l0.length c0] w fun e w' => ∃ bA bb : Value, e = .returned (.tuple #[.int .i64 r1, bA, bb, .string r4]) ∧ Kd.S k79 79 w' w.heap.size (fun k_ => some k_ ≠ (bb : Value).ownBlock) bA r2 ∧ Kd.R k82 82 w' w.heap.size (fun _ => True) bb r3 ∧ Below w.heap.size w w' := by
 have cr := Tryd.underlying27
 have bZ := mk_ bx
 have b0 := mk_ bz
 clear bx bz
 have HB := mk_ (Below.refl w.heap.size w)
 unfold spec_DrawReadProof.f at h
 have H := h
 clear h
 replace H := bm_ H; obtain ⟨⟨A, bc⟩, A2, H⟩ := H
 try dsimp only at H
 replace H := bm_ H; obtain ⟨⟨aw, ag, ab, ak, ad, ah⟩, A3, H⟩ := H
 try dsimp only at H
 revert H; refine bd_ fun x A4 H => ?_
 try dsimp only at H
 have be := mk_ H
 clear H
 go_enter Tryd.func27, Tryd.ntmps27
 go_upto_region 4 with (first | ((with_reducible refine gate_callee (f := 30) rfl ?_); refine gc_ 30 (some 14) Tryd.func30 #[.slice A0 l0.length c0] ?_; (with_reducible refine (spec_l20Open.calls _ _ l0 A bc w _ ?side1 ?side2 ?side3 A2.out).mono ?_); (case side1 => exact below_at HB.out); (case side2 => exact bZ.out); (case side3 => exact b0.out); rintro e w6 ⟨y, rfl, hi, hb, bB⟩; refine ⟨_, rfl, ?_⟩; replace HB := mk_ (hb); have z := mk_ (hi); (try clear hb)) | ((with_reducible refine gate_callee (f := 29) rfl ?_); refine gc_ 29 (some 17) Tryd.func29 #[.pointer (some ⟨y, 0, none⟩), .int .i64 30] ?_; (with_reducible refine (spec_l20Proof.calls k y A bc 30 aw ag ab ak ad ah w _ ?side1 ?side2 A3.out).mono ?_); (case side1 => exact IsS99.below z.out lt_); (case side2 => exact below_at HB.out); rintro e w7 ⟨cw, cx, cy, rfl, bC, bD, bE, hi, hb, hk⟩; refine ⟨_, rfl, ?_⟩; have Y := mk_ (Kd.S_lower bC (below_size (below_at HB.out))); have Z := mk_ (Kd.R_lower bD (below_size (below_at HB.out))); have aa := mk_ (Kd.R_lower bE (below_size (below_at HB.out))); replace HB := mk_ (hb); replace z := mk_ (hi); (try clear hb); (try clear bC); (try clear bD); (try clear bE)) | ((with_reducible refine gate_dst (N := 10) rfl ?_); (try (refine gate_guard (by rfl) ?_; dsimp only)); refine bx_ 10 #[.int .i64 0, .slice none 0 0] 27 ?_; intro ai hg w8 bf hb; replace Y := mk_ (Kd.S_below (Kd.S_below Y.out lt_) hb); replace Z := mk_ (Kd.R_below (Kd.R_below Z.out lt_) hb); replace aa := mk_ (Kd.R_below (Kd.R_below aa.out lt_) hb); have q := mk_ (bf); have bn := gm_ hg HB.out; have cc := bn; replace HB := hs_ HB hb; have aj := mk_ ((by rw [hg]; exact Nat.ne_of_lt (IsS99.lt (show IsS99 w _ y A ah from IsS99.below z.out lt_)) : y ≠ ai)); have ac := mk_ ((by rw [hg]; exact Nat.ne_of_gt (IsS99.lt (show IsS99 w _ y A ah from IsS99.below z.out lt_)) : ai ≠ y)); replace z := mk_ (IsS99.below (IsS99.below z.out lt_) hb); clear hb bf hg; have cA := ac.out; have cB := aj.out; obtain ⟨a6, a7, a8, a9⟩ := b2_ q; obtain ⟨an, al, bS⟩ := Kd.R_slice aa.out; subst bS; obtain ⟨ay, ax, bT⟩ := Kd.S_slice Y.out; subst bT; obtain ⟨ao, am, bU⟩ := Kd.R_slice Z.out; subst bU) | ((with_reducible refine gate_callee (f := 9) rfl ?_); refine gc_ 9 (some 26) Tryd.func9 #[.int .i64 aw, .slice ay ag.length ax, .slice ao ab.length am, .agg #[.int .i64 ak, .slice an ad.length al]] ?_; (with_reducible refine mo_ (spec_ProofText.calls k aw _ _ ag _ _ ab ak _ _ ad x _ ?side1 ?side2 ?side3 ?side4 ?side5 ?side6 A4.out) ?_); (case side1 => refine (Kd.S_reads' (e := 79) (base := w.heap.size) (ok := fun k_ => some k_ ≠ (.slice ao ab.length am : Value).ownBlock) (n := ag.length) (c := ax) ?_).2.2; exact (by (with_reducible repeat (first | apply Kd.S_alloc | apply Kd.S_drewN | apply Kd.S_drew)); exact (Kd.S_mono (Kd.S_far (Kd.S_far (Kd.S_types Y.out q.out (by decide)) (fun _ hk => hk.2) _) (fun _ hk => hk.2) _) (fun _ h_ => h_.1)))); (case side2 => exact (Kd.S_reads' Y.out).2.1); (case side3 => refine (Kd.R_reads' (e := 82) (base := w.heap.size) (ok := fun k_ => True) (n := ab.length) (c := am) ?_).2.2; exact (by (with_reducible repeat (first | apply Kd.R_alloc | apply Kd.R_drewN | apply Kd.R_drew)); exact (Kd.R_mono (Kd.R_far (Kd.R_far (Kd.R_types Z.out q.out (by decide)) (fun _ hk => hk.2) _) (fun _ hk => hk.2) _) (fun _ h_ => h_.1)))); (case side4 => exact (Kd.R_reads' Z.out).2.1); (case side5 => refine (Kd.R_reads' (e := 68) (base := w.heap.size) (ok := fun k_ => True) (n := ad.length) (c := al) ?_).2.2; exact (by (with_reducible repeat (first | apply Kd.R_alloc | apply Kd.R_drewN | apply Kd.R_drew)); exact (Kd.R_mono (Kd.R_far (Kd.R_far (Kd.R_types aa.out q.out (by decide)) (fun _ hk => hk.2) _) (fun _ hk => hk.2) _) (fun _ h_ => h_.1)))); (case side6 => exact (Kd.R_reads' aa.out).2.1); intro cE hb; replace Y := mk_ (Kd.S_below (by (with_reducible repeat (first | apply Kd.S_alloc | apply Kd.S_drewN | apply Kd.S_drew)); exact (Kd.S_mono (Kd.S_far (Kd.S_far (Kd.S_types Y.out q.out (by decide)) (fun _ hk => hk.2) _) (fun _ hk => hk.2) _) (fun _ h_ => h_.1))) hb); replace Z := mk_ (Kd.R_below (by (with_reducible repeat (first | apply Kd.R_alloc | apply Kd.R_drewN | apply Kd.R_drew)); exact (Kd.R_mono (Kd.R_far (Kd.R_far (Kd.R_types Z.out q.out (by decide)) (fun _ hk => hk.2) _) (fun _ hk => hk.2) _) (fun _ h_ => h_.1))) hb); replace aa := mk_ (Kd.R_below (by (with_reducible repeat (first | apply Kd.R_alloc | apply Kd.R_drewN | apply Kd.R_drew)); exact (Kd.R_mono (Kd.R_far (Kd.R_far (Kd.R_types aa.out q.out (by decide)) (fun _ hk => hk.2) _) (fun _ hk => hk.2) _) (fun _ h_ => h_.1))) hb); replace q := mk_ (blk_below (g := ai) (o := .cells #[.int .i64 ak, .slice an ad.length al] 27 (0, 0)) (by refine bs_ ?_; refine blk_put (cs := #[.int .i64 ak, .slice none 0 0]) ?_ 1 _ rfl; refine bs_ ?_; refine blk_put (cs := #[.int .i64 0, .slice none 0 0]) ?_ 0 _ rfl; refine bs_ ?_; exact q.out) hb); replace HB := mk_ (below_step hv_ hb); replace z := mk_ (IsS99.below (show IsS99 w ((w8.setCell ⟨ai, 0, none⟩ (.int .i64 ak)).setCell ⟨ai, 1, none⟩ (.slice an ad.length al)) y A ah from is_) hb); (try clear hb)))
 (try simp only [Act.put, z0_, z1_, z2_])
 go_cut [34] (fun b1 wc => ∃ (kq : Nat) (aJ : Bool) (X : Int), b1 = .bool aJ ∧ Aside0 (spec_DrawReadProof.j0 kq aw ag ab x aJ A X = some (r1, r2, r3, r4)) ∧ Aside0 (kq ≤ k) ∧ Aside0 (Kd.S k79 79 wc w.heap.size (fun k_ => some k_ ≠ ((.slice ao ab.length am) : Value).ownBlock) (.slice ay ag.length ax) ag) ∧ Aside0 (Kd.R k82 82 wc w.heap.size (fun _ => True) (.slice ao ab.length am) ab) ∧ Aside0 (Kd.R k68 68 wc w.heap.size (fun _ => True) (.slice an ad.length al) ad) ∧ Aside0 (wc.heap[ai]? = some (.cells #[.int .i64 ak, (.slice an ad.length al)] 27 (0, 0))) ∧ Aside0 (IsS99 w wc y A X) ∧ Aside0 (Below w.heap.size w wc))
 case first =>
  have H := be.out
  clear be
  replace H := bm_ H; obtain ⟨⟨bg, aK⟩, bF, H⟩ := H
  try dsimp only at H
  revert H; refine it_ (qt_ fun au aU H => ?_) (qfk_ fun b2 au aU H => ?_)
  ·(first | rw [au] | (simp only [i64_w, i32_w]; rw [au]) | skip)
   have H' := mk_ H
   clear H
   go_wp2_with (first | ((with_reducible refine gate_callee (f := 52) rfl ?_); refine gc_ 52 (some 28) Tryd.func52 #[.pointer (some ⟨y, 0, none⟩), .int .i64 3] ?_; (with_reducible refine mo_ (spec_l20Rd_pick.calls k y A ah 3 bg aK w _ ?side1 ?side2 bF.out) ?_); (case side1 => exact is_); (case side2 => exact hv_); rintro cF ⟨hi, hb, hk⟩; replace Y := mk_ (Kd.S_mono (Kd.S_keep (IsS99.apartS (is_ : IsS99 w _ y A ah) (Kd.S_below Y.out lt_) (by decide)) hk (fun _ h => h.2)) (fun _ h => h.1)); replace Z := mk_ (Kd.R_mono (Kd.R_keep (IsS99.apart (is_ : IsS99 w _ y A ah) (Kd.R_below Z.out lt_) (by decide)) hk (fun _ h => h.2)) (fun _ h => h.1)); replace aa := mk_ (Kd.R_mono (Kd.R_keep (IsS99.apart (is_ : IsS99 w _ y A ah) (Kd.R_below aa.out lt_) (by decide)) hk (fun _ h => h.2)) (fun _ h => h.1)); replace q := kl_ hk q ac; replace HB := mk_ (hb); replace z := mk_ (hi); (try clear hb)))
   go_meet
   case rel => exact ⟨_, (decide ((x.size : Int) > 0)), (aK), sm_, H', ⟨by first | omega | exact Nat.le_refl _⟩, ⟨Kd.S_below Y.out lt_⟩, ⟨Kd.R_below Z.out lt_⟩, ⟨Kd.R_below aa.out lt_⟩, ⟨by refine bs_ ?_; exact q.out⟩, ⟨is_⟩, ⟨hv_⟩⟩
  (first | rw [au] | (simp only [i64_w, i32_w]; rw [au]) | skip)
  have H' := mk_ H
  clear H
  go_wp2_with (first | ((with_reducible refine gate_callee (f := 52) rfl ?_); refine gc_ 52 (some 28) Tryd.func52 #[.pointer (some ⟨y, 0, none⟩), .int .i64 3] ?_; (with_reducible refine mo_ (spec_l20Rd_pick.calls k y A ah 3 bg aK w _ ?side1 ?side2 bF.out) ?_); (case side1 => exact is_); (case side2 => exact hv_); rintro cG ⟨hi, hb, hk⟩; replace Y := mk_ (Kd.S_mono (Kd.S_keep (IsS99.apartS (is_ : IsS99 w _ y A ah) (Kd.S_below Y.out lt_) (by decide)) hk (fun _ h => h.2)) (fun _ h => h.1)); replace Z := mk_ (Kd.R_mono (Kd.R_keep (IsS99.apart (is_ : IsS99 w _ y A ah) (Kd.R_below Z.out lt_) (by decide)) hk (fun _ h => h.2)) (fun _ h => h.1)); replace aa := mk_ (Kd.R_mono (Kd.R_keep (IsS99.apart (is_ : IsS99 w _ y A ah) (Kd.R_below aa.out lt_) (by decide)) hk (fun _ h => h.2)) (fun _ h => h.1)); replace q := kl_ hk q ac; replace HB := mk_ (hb); replace z := mk_ (hi); (try clear hb)))
  go_meet
  case rel => exact ⟨_, (false), (aK), sm_, H', ⟨by first | omega | exact Nat.le_refl _⟩, ⟨Kd.S_below Y.out lt_⟩, ⟨Kd.R_below Z.out lt_⟩, ⟨Kd.R_below aa.out lt_⟩, ⟨by refine bs_ ?_; exact q.out⟩, ⟨is_⟩, ⟨hv_⟩⟩
 clear be
 try clear b2
 try clear au
 try clear aU
 try clear a6
 try clear a7
 try clear a8
 try clear a9
 obtain ⟨kq, aJ, X, rfl, HA, cH, B, D, l, q, z, HB⟩ := hcut
 cases kq with
 | zero => exact absurd HA.out (by simp [spec_DrawReadProof.j0])
 | succ bh =>
  have H := HA.out
  clear HA
  simp only [spec_DrawReadProof.j0] at H
  revert H; refine bi_ ?_ ?_ <;> rintro rfl H
  ·simp only [Option.some.injEq, Prod.mk.injEq] at H
   obtain ⟨rfl, rfl, rfl, rfl⟩ := H
   go_wp2
   refine bodyPost_ret (results_list (rs := [.tmp 2, .tmp 3, .tmp 4, .tmp 5]) rfl (by simp) (.tmp (.tmp (.tmp (.tmp .nil))))) rfl ?_
   exact ⟨_, _, er_, by (with_reducible repeat (first | apply Kd.S_alloc | apply Kd.S_drewN | apply Kd.S_drew)); exact B.out, rl_ D.out, hv_⟩
  replace H := bm_ H; obtain ⟨⟨L, ap⟩, bG, H⟩ := H
  try dsimp only at H
  revert H; refine g_ (et_ fun cd ce => g_ (et_ fun cf cg H => ?_))
  obtain ⟨P, aG⟩ : ∃ y_ : List ByteArray, y_ = (([(⟨#[]⟩ : ByteArray), (⟨#[40]⟩ : ByteArray), (⟨#[41]⟩ : ByteArray), (⟨#[44]⟩ : ByteArray), (⟨#[42]⟩ : ByteArray), (⟨#[48]⟩ : ByteArray), (⟨#[97, 40, 42, 44, 42, 41]⟩ : ByteArray), (⟨#[101]⟩ : ByteArray)] : List ByteArray)) := ⟨_, rfl⟩
  first | (replace H := bn_ aG H; try dsimp only at H) | rw [← aG] at H
  have aL := mk_ aG
  clear aG
  replace H := bm_ H; obtain ⟨⟨O, aq⟩, bH, H⟩ := H
  try dsimp only at H
  revert H; refine g_ (dt_ fun ch => g_ (dt_ fun ci => g_ (fun aV H => ?_)))
  have cj := eq_true aV
  have ck : decide ((x.extract 0 (L : Int).toNat).size + (rdOf ByteArray.empty P O).size ≤ 9223372036854775807) = true := decide_eq_true aV
  try have bo : (9223372036854775807 < (x.extract 0 (L : Int).toNat).size + (rdOf ByteArray.empty P O).size) = False := eq_false (Nat.not_lt.2 aV)
  try (have bp := bo; simp only [ByteArray.size_append'] at bp)
  replace H := bm_ H; obtain ⟨⟨az, aS⟩, bI, H⟩ := H
  try dsimp only at H
  obtain ⟨U, ar⟩ : ∃ j_ : Int, (wrap64 (L + az)) = j_ := ⟨_, rfl⟩
  first | rw [ar] at H | simp only [ar] at H
  (try rw [ar] at bG)
  (try rw [ar] at bH)
  (try rw [ar] at bI)
  have b3 : (IntKind.i64.wrap (L + az)) = U := (i64_w _).trans ar
  revert H; refine g_ (et_ fun cl cm => g_ (et_ fun cn co => g_ (fun aP H => ?_)))
  have cp := eq_true aP
  have cq : decide (((x.extract 0 (L : Int).toNat) ++ (rdOf ByteArray.empty P O)).size + (x.extract ((U) : Int).toNat x.size).size ≤ 9223372036854775807) = true := decide_eq_true aP
  try have bq : (9223372036854775807 < ((x.extract 0 (L : Int).toNat) ++ (rdOf ByteArray.empty P O)).size + (x.extract ((U) : Int).toNat x.size).size) = False := eq_false (Nat.not_lt.2 aP)
  try (have br := bq; simp only [ByteArray.size_append'] at br)
  simp only [Option.some.injEq, Prod.mk.injEq] at H
  obtain ⟨rfl, rfl, rfl, rfl⟩ := H
  try go_wp2_with (first | ((with_reducible refine gate_callee (f := 52) rfl ?_); refine gc_ 52 (some 38) Tryd.func52 #[.pointer (some ⟨y, 0, none⟩), .int .i64 (x.size : Int)] ?_; (with_reducible refine mo_ (spec_l20Rd_pick.calls bh y A X (x.size : Int) L ap w _ ?side1 ?side2 bG.out) ?_); (case side1 => exact is_); (case side2 => exact hv_); rintro b4 ⟨hi, hb, hk⟩; replace B := mk_ (Kd.S_mono (Kd.S_keep (IsS99.apartS (is_ : IsS99 w _ y A X) (Kd.S_below B.out lt_) (by decide)) hk (fun _ h => h.2)) (fun _ h => h.1)); replace D := mk_ (Kd.R_mono (Kd.R_keep (IsS99.apart (is_ : IsS99 w _ y A X) (Kd.R_below D.out lt_) (by decide)) hk (fun _ h => h.2)) (fun _ h => h.1)); replace l := mk_ (Kd.R_mono (Kd.R_keep (IsS99.apart (is_ : IsS99 w _ y A X) (Kd.R_below l.out lt_) (by decide)) hk (fun _ h => h.2)) (fun _ h => h.1)); replace q := kl_ hk q ac; replace HB := mk_ (hb); replace z := mk_ (hi); (try clear hb)))
  have bs : (0 ≤ (O : Int)) = True := eq_true (oa_)
  have bu : (O < (P.length : Int)) = True := eq_true (oa_)
  replace B := mk_ (Kd.S_drew B.out)
  replace D := mk_ (Kd.R_drew D.out)
  replace l := mk_ (Kd.R_drew l.out)
  replace q := mk_ (blk_drew q.out)
  replace z := mk_ (IsS99.drew z.out)
  replace HB := mk_ (below_drew1 HB.out)
  refine start_ (n := 23) (S := fun w' => True) (ds := []) #[false, false, false, false, false, false, false, false, false, false, false, false, false, false, false, false, false, false, false, false, false, false, false] (by kernel_rfl) rfl rfl trivial (fun bv => ?_); refine with_tabW spec_DrawReadProof.tab6 spec_DrawReadProof.bits6 (fun av b5 => ?_)
  generalize b4.drew = cI at B D l q z HB bv ⊢
  refine pus_ 0 (some 39) (ao_ av) ?_
  refine pus_ 1 (some 40) (ao_ av) ?_
  refine pus_ 2 (some 41) (ao_ av) ?_
  refine pus_ 3 (some 42) (ao_ av) ?_
  refine pus_ 4 (some 43) (ao_ av) ?_
  refine pus_ 7 (some 46) (ao_ av) ?_
  refine pus_ 12 (some 51) (ao_ av) ?_
  refine pus_ 13 (some 52) (ao_ av) ?_
  refine pus_ 14 (some 53) (ao_ av) ?_
  refine inv_at [5, 6, 8, 9, 10, 11, 15, 16, 17, 18, 19, 20, 21, 22] (fun b6 b a w' => ∃ (E : Value) (p : Addr) (T : Value), a = putSel b6 b [(5, 44, .string (x.extract 0 (L : Int).toNat)), (6, 45, E), (8, 47, .int .i64 O), (9, 48, T), (10, 49, .string (rdOf ByteArray.empty P O)), (11, 50, .string ((x.extract 0 (L : Int).toNat) ++ (rdOf ByteArray.empty P O))), (15, 54, .int .i64 az), (16, 55, .int .i64 U), (17, 56, .string (x.extract ((U) : Int).toNat x.size)), (18, 57, .string (((x.extract 0 (L : Int).toNat) ++ (rdOf ByteArray.empty P O)) ++ (x.extract ((U) : Int).toNat x.size))), (19, 2, .int .i64 aw), (20, 3, .slice ay ag.length ax), (21, 4, .slice ao ab.length am), (22, 5, .string (((x.extract 0 (L : Int).toNat) ++ (rdOf ByteArray.empty P O)) ++ (x.extract ((U) : Int).toNat x.size)))] ∧ (Kd.R k68 68 w' w.heap.size (fun _ => True) (.slice an ad.length al) ad) ∧ (Kd.S k79 79 w' w.heap.size (fun k_ => some k_ ≠ (.slice ao ab.length am : Value).ownBlock) (.slice ay ag.length ax) ag) ∧ (Kd.R k82 82 w' w.heap.size (fun _ => True) (.slice ao ab.length am) ab) ∧ (w'.heap[ai]? = some (.cells #[.int .i64 ak, .slice an ad.length al] 27 (0, 0))) ∧ (b 8 = false → IsS99 w w' y A ap) ∧ (Below w.heap.size w w') ∧ (b 6 = true → Kd.R Kd.string 9 w' w.heap.size (fun _ => True) E P) ∧ (b 6 = true → ∃ c_, (E : Value) = .slice (some p) P.length c_) ∧ (b 8 = true → b 15 = false → IsS99 w w' y A aq) ∧ (b 15 = true → IsS99 w w' y A aS) ∧ (b 9 = true → (T : Value) = .pointer (some (p.add (O).toNat)))) av.out b5.out (by kernel_rfl) (by kernel_rfl) ?_ ?_ ?_
  ·exact ⟨.bool false, ⟨0, 0, none⟩, .bool false, by simp only [putSel, Bool.false_eq_true, if_false], l.out, B.out, D.out, q.out, fun _ => z.out, HB.out, fun h_ => absurd h_ (by decide), fun h_ => absurd h_ (by decide), fun h_ => absurd h_ (by decide), fun h_ => absurd h_ (by decide), fun h_ => absurd h_ (by decide)⟩
  ·skip
   clear q HB z l B D
   refine steps_cons ?_ ?_
   ·rintro b a w' ⟨E, p, T, ha, d, s, t, m, G, Q_HB, r, j, u, i, I⟩ hb_ hon hoff
    refine ⟨_, rfl, fun K hK => ?_⟩
    have cJ : a.tmps[42]? = some (.string x) := by rw [ha]; exact (putSel_off rfl).trans rfl
    have cK : a.tmps[43]? = some (.int .i64 L) := by rw [ha]; exact (putSel_off rfl).trans rfl
    replace ha := mk_ ha
    have l := mk_ d
    have B := mk_ s
    have D := mk_ t
    have q := mk_ m
    have HB := mk_ Q_HB
    refine value_ (w1 := w') (v := .string (x.extract 0 (L : Int).toNat)) (by rfl) rfl ?_ ?_
    ·go_simp
     (try simp only [i64_w])
     try rfl
    refine hK.out _ _ ⟨E, p, T, (by rw [ha.out]; exact putSel_upk 0 hb_ rfl rfl rfl), d, s, t, m, G, Q_HB, r, j, u, i, I⟩
   refine steps_cons ?_ ?_
   ·rintro b a w' ⟨E, p, T, ha, d, s, t, m, G, Q_HB, r, j, u, i, I⟩ hb_ hon hoff
    refine ⟨_, rfl, fun K hK => ?_⟩
    replace ha := mk_ ha
    have l := mk_ d
    have B := mk_ s
    have D := mk_ t
    have q := mk_ m
    have HB := mk_ Q_HB
    refine Kd.R_lit_step Kd.string _ 9 ?hg (N := 45) ?hd (xs := ([(⟨#[]⟩ : ByteArray), (⟨#[40]⟩ : ByteArray), (⟨#[41]⟩ : ByteArray), (⟨#[44]⟩ : ByteArray), (⟨#[42]⟩ : ByteArray), (⟨#[48]⟩ : ByteArray), (⟨#[97, 40, 42, 44, 42, 41]⟩ : ByteArray), (⟨#[101]⟩ : ByteArray)] : List ByteArray)) (inner := [.string (⟨#[]⟩ : ByteArray), .string (⟨#[40]⟩ : ByteArray), .string (⟨#[41]⟩ : ByteArray), .string (⟨#[44]⟩ : ByteArray), .string (⟨#[42]⟩ : ByteArray), .string (⟨#[48]⟩ : ByteArray), .string (⟨#[97, 40, 42, 44, 42, 41]⟩ : ByteArray), .string (⟨#[101]⟩ : ByteArray)]) (ok := fun _ => True) (okp := fun _ => True) ?hr ?hp (fun _ hk => hk) trivial (Below.refl _ _) (Nat.le_refl _) (by simp) ?_; (case hd => rfl); (case hg => rfl); (case hr => first | (go_simp; done) | (go_simp; rfl)); (case hp => exact (Reps.one (show Kd.M Kd.string _ _ _ (⟨#[]⟩ : ByteArray) [.string (⟨#[]⟩ : ByteArray)] from rfl) (Reps.one (show Kd.M Kd.string _ _ _ (⟨#[40]⟩ : ByteArray) [.string (⟨#[40]⟩ : ByteArray)] from rfl) (Reps.one (show Kd.M Kd.string _ _ _ (⟨#[41]⟩ : ByteArray) [.string (⟨#[41]⟩ : ByteArray)] from rfl) (Reps.one (show Kd.M Kd.string _ _ _ (⟨#[44]⟩ : ByteArray) [.string (⟨#[44]⟩ : ByteArray)] from rfl) (Reps.one (show Kd.M Kd.string _ _ _ (⟨#[42]⟩ : ByteArray) [.string (⟨#[42]⟩ : ByteArray)] from rfl) (Reps.one (show Kd.M Kd.string _ _ _ (⟨#[48]⟩ : ByteArray) [.string (⟨#[48]⟩ : ByteArray)] from rfl) (Reps.one (show Kd.M Kd.string _ _ _ (⟨#[97, 40, 42, 44, 42, 41]⟩ : ByteArray) [.string (⟨#[97, 40, 42, 44, 42, 41]⟩ : ByteArray)] from rfl) (Reps.one (show Kd.M Kd.string _ _ _ (⟨#[101]⟩ : ByteArray) [.string (⟨#[101]⟩ : ByteArray)] from rfl) (Reps.none _ _))))))))))
    intro E aQ aH hb b7 bw
    clear b7 bw
    (first | rw [← aL.out] at aH | (simp only [Int.reduceToNat] at aH; rw [← aL.out] at aH))
    have aB := mk_ (Kd.S_below (Kd.S_below B.out lt_) hb)
    have aC := mk_ (Kd.R_below (Kd.R_below D.out lt_) hb)
    have aD := mk_ (Kd.R_below (Kd.R_below l.out lt_) hb)
    have aE := mk_ (Kd.R_lower aH (below_size (at_ HB.out)))
    have aF := mk_ (blk_at q.out hb)
    have bJ := mk_ (below_step (at_ HB.out) hb)
    have ba := fun (J : b 8 = false) => (show IsS99 w aQ y A ap from by first | exact (IsS99.below (by repeat (first | (with_reducible first | exact (G J) | apply IsS99.alloc | apply IsS99.drewN | apply IsS99.drew | apply IsS99.set_1 | refine IsS99.far ?_ aj.out _) | exact (G J))) hb))
    have aM := fun (J : b 8 = true) (ae : b 15 = false) => (show IsS99 w aQ y A aq from by first | exact (IsS99.below (by repeat (first | (with_reducible first | exact (u J ae) | apply IsS99.alloc | apply IsS99.drewN | apply IsS99.drew | apply IsS99.set_1 | refine IsS99.far ?_ aj.out _) | exact (u J ae))) hb))
    have aI := fun (J : b 15 = true) => (show IsS99 w aQ y A aS from by first | exact (IsS99.below (by repeat (first | (with_reducible first | exact (i J) | apply IsS99.alloc | apply IsS99.drewN | apply IsS99.drew | apply IsS99.set_1 | refine IsS99.far ?_ aj.out _) | exact (i J))) hb))
    clear B
    clear D
    clear l
    clear q
    clear HB
    have B := aB
    have D := aC
    have l := aD
    have af := aE
    have q := aF
    have HB := bJ
    clear aB aC aD aE aF bJ
    clear hb aH
    obtain ⟨cC, bV, bW⟩ := Kd.R_slice af.out
    subst bW
    obtain ⟨aW, bX, _⟩ := Kd.at_string (Kd.R_reads' af.out).2.2 0 (by decide) (by rw [aL.out]; simp)
    cases bX
    refine hK.out _ _ ⟨.slice (some aW) P.length bV, aW, T, (by rw [ha.out]; exact putSel_upk 1 hb_ rfl rfl rfl), (Kd.R_below l.out lt_), (Kd.S_below B.out lt_), (Kd.R_below D.out lt_), (bk_ q.out), ba, (at_ HB.out), fun _ => (Kd.R_below af.out lt_), fun _ => ⟨_, rfl⟩, aM, aI, fun J => absurd ((hoff 9 (by kernel_rfl)).symm.trans J) (by decide)⟩
   refine steps_cons ?_ ?_
   ·rintro b a w' ⟨E, p, T, ha, d, s, t, m, G, Q_HB, r, j, u, i, I⟩ hb_ hon hoff
    refine ⟨_, rfl, fun K hK => ?_⟩
    have bK : a.tmps[46]? = some (.pointer (some ⟨y, 0, none⟩)) := by rw [ha]; exact (putSel_off rfl).trans rfl
    replace ha := mk_ ha
    have l := mk_ d
    have B := mk_ s
    have D := mk_ t
    have q := mk_ m
    have z := mk_ (G hb_)
    have HB := mk_ Q_HB
    refine goes_ Tryd.func52 (by kernel_rfl) rfl #[.pointer (some ⟨y, 0, none⟩), .int .i64 8] (by rfl) rfl rfl (by first | (simp only [List.map_toArray, List.map_cons, List.map_nil, Act.eval, Array.getD_eq_getD_getElem?, Option.getD_some, bK]; done) | (simp only [List.map_toArray, List.map_cons, List.map_nil, Act.eval, Array.getD_eq_getD_getElem?, Option.getD_some, bK]; rfl)) ?_
    with_reducible refine (spec_l20Rd_pick.calls bh y A ap 8 O aq w _ ?side1 ?side2 bH.out).mono ?_
    (case side1 => exact is_)
    (case side2 => exact hv_)
    rintro e aQ ⟨rfl, hi, hb, hk⟩
    refine ⟨_, rfl, ?_⟩
    have aB := mk_ (Kd.S_mono (Kd.S_keep (IsS99.apartS (is_ : IsS99 w _ y A ap) (Kd.S_below B.out lt_) (by decide)) hk (fun _ h => h.2)) (fun _ h => h.1))
    have aC := mk_ (Kd.R_mono (Kd.R_keep (IsS99.apart (is_ : IsS99 w _ y A ap) (Kd.R_below D.out lt_) (by decide)) hk (fun _ h => h.2)) (fun _ h => h.1))
    have aD := mk_ (Kd.R_mono (Kd.R_keep (IsS99.apart (is_ : IsS99 w _ y A ap) (Kd.R_below l.out lt_) (by decide)) hk (fun _ h => h.2)) (fun _ h => h.1))
    have aE := mk_ (KeepBut.blk hk (g' := ai) (o := .cells #[.int .i64 ak, .slice an ad.length al] 27 (0, 0)) (bk_ q.out) ac.out (by simp))
    have aF := mk_ (hb)
    have aR := mk_ (hi)
    have aA := fun (J : b 6 = true) => (show Kd.R Kd.string 9 aQ w.heap.size (fun _ => True) E P from by first | exact (Kd.R_mono (Kd.R_keep (IsS99.apart (is_ : IsS99 w _ y A ap) (by (with_reducible repeat (first | apply Kd.R_alloc | apply Kd.R_drewN | apply Kd.R_drew)); exact (r J)) (by decide)) hk (fun _ h => h.2)) (fun _ h => h.1)) | exact Kd.R_mono (Kd.R_mono (Kd.R_keep (IsS99.apart (is_ : IsS99 w _ y A ap) (by (with_reducible repeat (first | apply Kd.R_alloc | apply Kd.R_drewN | apply Kd.R_drew)); exact (r J)) (by decide)) hk (fun _ h => h.2)) (fun _ h => h.1)) (fun _ h_ => by first | trivial | exact h_ | exact h_.1))
    clear B
    clear D
    clear l
    clear q
    clear HB
    clear z
    have B := aB
    have D := aC
    have l := aD
    have q := aE
    have HB := aF
    have z := aR
    clear aB aC aD aE aF aR
    (try clear hb)
    (try clear bB)
    (try clear hk)
    (try clear hi)
    refine hK.out _ _ ⟨E, p, T, (by rw [ha.out]; exact putSel_upk 2 hb_ rfl rfl rfl), (Kd.R_below l.out lt_), (Kd.S_below B.out lt_), (Kd.R_below D.out lt_), (bk_ q.out), fun J => absurd ((up_self b 8).symm.trans J) (by decide), hv_, aA, j, fun _ _ => is_, fun J => absurd ((hoff 15 (by kernel_rfl)).symm.trans J) (by decide), fun J => absurd ((hoff 9 (by kernel_rfl)).symm.trans J) (by decide)⟩
   refine steps_cons ?_ ?_
   ·rintro b a w' ⟨E, p, T, ha, d, s, t, m, G, Q_HB, r, j, u, i, I⟩ hb_ hon hoff
    refine ⟨_, rfl, fun K hK => ?_⟩
    have b8 : a.tmps[45]? = some (E) := by rw [ha]; exact putSel_on (e := (6, 45, E)) 1 rfl rfl (hon 6 (by kernel_rfl)) rfl
    have cL : a.tmps[47]? = some (.int .i64 O) := by rw [ha]; exact putSel_on (e := (8, 47, .int .i64 O)) 2 rfl rfl (hon 8 (by kernel_rfl)) rfl
    replace ha := mk_ ha
    have l := mk_ d
    have B := mk_ s
    have D := mk_ t
    have q := mk_ m
    have HB := mk_ Q_HB
    have af := mk_ (r (hon 6 (by kernel_rfl)))
    have W := mk_ (j (hon 6 (by kernel_rfl)))
    obtain ⟨c_, hv_⟩ := W.out
    rw [hv_] at b8
    refine value_ (w1 := w') (v := .pointer (some (p.add (O).toNat))) (by rfl) rfl ?_ ?_
    ·go_simp
     (try simp only [i64_w])
     try rfl
    refine hK.out _ _ ⟨E, p, (.pointer (some (p.add (O).toNat))), (by rw [ha.out]; exact putSel_upk 3 hb_ rfl rfl rfl), d, s, t, m, fun J => absurd ((hon 8 (by kernel_rfl)).symm.trans J) (by decide), Q_HB, r, j, u, i, fun _ => rfl⟩
   refine steps_cons ?_ ?_
   ·rintro b a w' ⟨E, p, T, ha, d, s, t, m, G, Q_HB, r, j, u, i, I⟩ hb_ hon hoff
    refine ⟨_, rfl, fun K hK => ?_⟩
    have b9 : a.tmps[48]? = some (T) := by rw [ha]; exact putSel_on (e := (9, 48, T)) 3 rfl rfl (hon 9 (by kernel_rfl)) rfl
    rw [I (hon 9 (by kernel_rfl))] at b9
    replace ha := mk_ ha
    have l := mk_ d
    have B := mk_ s
    have D := mk_ t
    have q := mk_ m
    have HB := mk_ Q_HB
    have af := mk_ (r (hon 6 (by kernel_rfl)))
    have W := mk_ (j (hon 6 (by kernel_rfl)))
    obtain ⟨c_, hv_⟩ := W.out
    have hF_ := af.out
    rw [hv_] at hF_
    obtain ⟨ad_, ca, hx_⟩ := Kd.at_string (Kd.R_reads' hF_).2.2 O (of_eq_true bs) (of_eq_true bu)
    cases ca
    refine value_ (w1 := w') (v := .string (rdOf ByteArray.empty P O)) (by rfl) rfl ?_ ?_
    ·go_simp
     (try simp only [i64_w])
     try rfl
    refine hK.out _ _ ⟨E, p, T, (by rw [ha.out]; exact putSel_upk 4 hb_ rfl rfl rfl), d, s, t, m, fun J => absurd ((hon 8 (by kernel_rfl)).symm.trans J) (by decide), Q_HB, r, j, u, i, I⟩
   refine steps_cons ?_ ?_
   ·rintro b a w' ⟨E, p, T, ha, d, s, t, m, G, Q_HB, r, j, u, i, I⟩ hb_ hon hoff
    refine ⟨_, rfl, fun K hK => ?_⟩
    have cM : a.tmps[44]? = some (.string (x.extract 0 (L : Int).toNat)) := by rw [ha]; exact putSel_on (e := (5, 44, .string (x.extract 0 (L : Int).toNat))) 0 rfl rfl (hon 5 (by kernel_rfl)) rfl
    have cN : a.tmps[49]? = some (.string (rdOf ByteArray.empty P O)) := by rw [ha]; exact putSel_on (e := (10, 49, .string (rdOf ByteArray.empty P O))) 4 rfl rfl (hon 10 (by kernel_rfl)) rfl
    replace ha := mk_ ha
    have l := mk_ d
    have B := mk_ s
    have D := mk_ t
    have q := mk_ m
    have HB := mk_ Q_HB
    have af := mk_ (r (hon 6 (by kernel_rfl)))
    have W := mk_ (j (hon 6 (by kernel_rfl)))
    refine value_ (w1 := w') (v := .string ((x.extract 0 (L : Int).toNat) ++ (rdOf ByteArray.empty P O))) (by rfl) rfl ?_ ?_
    ·go_simp
     (try simp only [i64_w])
     try rfl
     try (have h_ := aV; simp only [ByteArray.size_append, ByteArray.size_extract] at h_; have k_ : L ≤ (x.size : Int) := oa_; have l_ : 0 ≤ L := oa_; omega)
    refine hK.out _ _ ⟨E, p, T, (by rw [ha.out]; exact putSel_upk 5 hb_ rfl rfl rfl), d, s, t, m, fun J => absurd ((hon 8 (by kernel_rfl)).symm.trans J) (by decide), Q_HB, r, j, u, i, I⟩
   refine steps_cons ?_ ?_
   ·rintro b a w' ⟨E, p, T, ha, d, s, t, m, G, Q_HB, r, j, u, i, I⟩ hb_ hon hoff
    refine ⟨_, rfl, fun K hK => ?_⟩
    have bL : a.tmps[53]? = some (.pointer (some ⟨y, 0, none⟩)) := by rw [ha]; exact (putSel_off rfl).trans rfl
    replace ha := mk_ ha
    have l := mk_ d
    have B := mk_ s
    have D := mk_ t
    have q := mk_ m
    have HB := mk_ Q_HB
    have z := mk_ (u (hon 8 (by kernel_rfl)) hb_)
    refine goes_ Tryd.func52 (by kernel_rfl) rfl #[.pointer (some ⟨y, 0, none⟩), .int .i64 2] (by rfl) rfl rfl (by first | (simp only [List.map_toArray, List.map_cons, List.map_nil, Act.eval, Array.getD_eq_getD_getElem?, Option.getD_some, bL]; done) | (simp only [List.map_toArray, List.map_cons, List.map_nil, Act.eval, Array.getD_eq_getD_getElem?, Option.getD_some, bL]; rfl)) ?_
    with_reducible refine (spec_l20Rd_pick.calls bh y A aq 2 az aS w _ ?side1 ?side2 bI.out).mono ?_
    (case side1 => exact is_)
    (case side2 => exact hv_)
    rintro e cb ⟨rfl, hi, hb, hk⟩
    refine ⟨_, rfl, ?_⟩
    have aB := mk_ (Kd.S_mono (Kd.S_keep (IsS99.apartS (is_ : IsS99 w _ y A aq) (Kd.S_below B.out lt_) (by decide)) hk (fun _ h => h.2)) (fun _ h => h.1))
    have aC := mk_ (Kd.R_mono (Kd.R_keep (IsS99.apart (is_ : IsS99 w _ y A aq) (Kd.R_below D.out lt_) (by decide)) hk (fun _ h => h.2)) (fun _ h => h.1))
    have aD := mk_ (Kd.R_mono (Kd.R_keep (IsS99.apart (is_ : IsS99 w _ y A aq) (Kd.R_below l.out lt_) (by decide)) hk (fun _ h => h.2)) (fun _ h => h.1))
    have aE := mk_ (KeepBut.blk hk (g' := ai) (o := .cells #[.int .i64 ak, .slice an ad.length al] 27 (0, 0)) (bk_ q.out) ac.out (by simp))
    have aF := mk_ (hb)
    have aR := mk_ (hi)
    have aA := fun (J : b 6 = true) => (show Kd.R Kd.string 9 cb w.heap.size (fun _ => True) E P from by first | exact (Kd.R_mono (Kd.R_keep (IsS99.apart (is_ : IsS99 w _ y A aq) (by (with_reducible repeat (first | apply Kd.R_alloc | apply Kd.R_drewN | apply Kd.R_drew)); exact (r J)) (by decide)) hk (fun _ h => h.2)) (fun _ h => h.1)) | exact Kd.R_mono (Kd.R_mono (Kd.R_keep (IsS99.apart (is_ : IsS99 w _ y A aq) (by (with_reducible repeat (first | apply Kd.R_alloc | apply Kd.R_drewN | apply Kd.R_drew)); exact (r J)) (by decide)) hk (fun _ h => h.2)) (fun _ h => h.1)) (fun _ h_ => by first | trivial | exact h_ | exact h_.1))
    clear B
    clear D
    clear l
    clear q
    clear HB
    clear z
    have B := aB
    have D := aC
    have l := aD
    have q := aE
    have HB := aF
    have z := aR
    clear aB aC aD aE aF aR
    (try clear hb)
    (try clear bB)
    (try clear hk)
    (try clear hi)
    refine hK.out _ _ ⟨E, p, T, (by rw [ha.out]; exact putSel_upk 6 hb_ rfl rfl rfl), (Kd.R_below l.out lt_), (Kd.S_below B.out lt_), (Kd.R_below D.out lt_), (bk_ q.out), fun J => absurd ((hon 8 (by kernel_rfl)).symm.trans J) (by decide), hv_, aA, j, fun _ ae => absurd ((up_self b 15).symm.trans ae) (by decide), fun _ => is_, I⟩
   refine steps_cons ?_ ?_
   ·rintro b a w' ⟨E, p, T, ha, d, s, t, m, G, Q_HB, r, j, u, i, I⟩ hb_ hon hoff
    refine ⟨_, rfl, fun K hK => ?_⟩
    have cO : a.tmps[52]? = some (.int .i64 L) := by rw [ha]; exact (putSel_off rfl).trans rfl
    have cP : a.tmps[54]? = some (.int .i64 az) := by rw [ha]; exact putSel_on (e := (15, 54, .int .i64 az)) 6 rfl rfl (hon 15 (by kernel_rfl)) rfl
    replace ha := mk_ ha
    have l := mk_ d
    have B := mk_ s
    have D := mk_ t
    have q := mk_ m
    have HB := mk_ Q_HB
    have z := mk_ (i (hon 15 (by kernel_rfl)))
    refine value_ (w1 := w') (v := .int .i64 U) (by rfl) rfl ?_ ?_
    ·go_simp
     (try simp only [i64_w])
     try rfl
    refine hK.out _ _ ⟨E, p, T, (by rw [ha.out]; exact putSel_upk 7 hb_ rfl rfl rfl), d, s, t, m, fun J => absurd ((hon 8 (by kernel_rfl)).symm.trans J) (by decide), Q_HB, r, j, fun _ ae => absurd ((hon 15 (by kernel_rfl)).symm.trans ae) (by decide), i, I⟩
   refine steps_cons ?_ ?_
   ·rintro b a w' ⟨E, p, T, ha, d, s, t, m, G, Q_HB, r, j, u, i, I⟩ hb_ hon hoff
    refine ⟨_, rfl, fun K hK => ?_⟩
    have cQ : a.tmps[51]? = some (.string x) := by rw [ha]; exact (putSel_off rfl).trans rfl
    have cR : a.tmps[55]? = some (.int .i64 U) := by rw [ha]; exact putSel_on (e := (16, 55, .int .i64 U)) 7 rfl rfl (hon 16 (by kernel_rfl)) rfl
    replace ha := mk_ ha
    have l := mk_ d
    have B := mk_ s
    have D := mk_ t
    have q := mk_ m
    have HB := mk_ Q_HB
    have z := mk_ (i (hon 15 (by kernel_rfl)))
    refine value_ (w1 := w') (v := .string (x.extract ((U) : Int).toNat x.size)) (by rfl) rfl ?_ ?_
    ·go_simp
     (try simp only [i64_w])
     try rfl
    refine hK.out _ _ ⟨E, p, T, (by rw [ha.out]; exact putSel_upk 8 hb_ rfl rfl rfl), d, s, t, m, fun J => absurd ((hon 8 (by kernel_rfl)).symm.trans J) (by decide), Q_HB, r, j, fun _ ae => absurd ((hon 15 (by kernel_rfl)).symm.trans ae) (by decide), i, I⟩
   refine steps_cons ?_ ?_
   ·rintro b a w' ⟨E, p, T, ha, d, s, t, m, G, Q_HB, r, j, u, i, I⟩ hb_ hon hoff
    refine ⟨_, rfl, fun K hK => ?_⟩
    have cS : a.tmps[50]? = some (.string ((x.extract 0 (L : Int).toNat) ++ (rdOf ByteArray.empty P O))) := by rw [ha]; exact putSel_on (e := (11, 50, .string ((x.extract 0 (L : Int).toNat) ++ (rdOf ByteArray.empty P O)))) 5 rfl rfl (hon 11 (by kernel_rfl)) rfl
    have cT : a.tmps[56]? = some (.string (x.extract ((U) : Int).toNat x.size)) := by rw [ha]; exact putSel_on (e := (17, 56, .string (x.extract ((U) : Int).toNat x.size))) 8 rfl rfl (hon 17 (by kernel_rfl)) rfl
    replace ha := mk_ ha
    have l := mk_ d
    have B := mk_ s
    have D := mk_ t
    have q := mk_ m
    have HB := mk_ Q_HB
    have af := mk_ (r (hon 6 (by kernel_rfl)))
    have W := mk_ (j (hon 6 (by kernel_rfl)))
    have z := mk_ (i (hon 15 (by kernel_rfl)))
    refine value_ (w1 := w') (v := .string (((x.extract 0 (L : Int).toNat) ++ (rdOf ByteArray.empty P O)) ++ (x.extract ((U) : Int).toNat x.size))) (by rfl) rfl ?_ ?_
    ·go_simp
     (try simp only [i64_w])
     try rfl
     try (have h_ := aP; simp only [ByteArray.size_append, ByteArray.size_extract] at h_; have k_ : L ≤ (x.size : Int) := oa_; have l_ : 0 ≤ L := oa_; have m_ : U ≤ (x.size : Int) := oa_; have n_ : 0 ≤ U := oa_; omega)
    refine hK.out _ _ ⟨E, p, T, (by rw [ha.out]; exact putSel_upk 9 hb_ rfl rfl rfl), d, s, t, m, fun J => absurd ((hon 8 (by kernel_rfl)).symm.trans J) (by decide), Q_HB, r, j, fun _ ae => absurd ((hon 15 (by kernel_rfl)).symm.trans ae) (by decide), i, I⟩
   refine steps_cons ?_ ?_
   ·rintro b a w' ⟨E, p, T, ha, d, s, t, m, G, Q_HB, r, j, u, i, I⟩ hb_ hon hoff
    refine ⟨_, rfl, fun K hK => ?_⟩
    have cU : a.tmps[39]? = some (.int .i64 aw) := by rw [ha]; exact (putSel_off rfl).trans rfl
    replace ha := mk_ ha
    have l := mk_ d
    have B := mk_ s
    have D := mk_ t
    have q := mk_ m
    have HB := mk_ Q_HB
    have z := mk_ (i (hon 15 (by kernel_rfl)))
    refine value_ (w1 := w') (v := .int .i64 aw) (by rfl) rfl ?_ ?_
    ·go_simp
     (try simp only [i64_w])
     try rfl
    refine hK.out _ _ ⟨E, p, T, (by rw [ha.out]; exact putSel_upk 10 hb_ rfl rfl rfl), d, s, t, m, fun J => absurd ((hon 8 (by kernel_rfl)).symm.trans J) (by decide), Q_HB, r, j, fun _ ae => absurd ((hon 15 (by kernel_rfl)).symm.trans ae) (by decide), i, I⟩
   refine steps_cons ?_ ?_
   ·rintro b a w' ⟨E, p, T, ha, d, s, t, m, G, Q_HB, r, j, u, i, I⟩ hb_ hon hoff
    refine ⟨_, rfl, fun K hK => ?_⟩
    have cV : a.tmps[40]? = some (.slice ay ag.length ax) := by rw [ha]; exact (putSel_off rfl).trans rfl
    replace ha := mk_ ha
    have l := mk_ d
    have B := mk_ s
    have D := mk_ t
    have q := mk_ m
    have HB := mk_ Q_HB
    have z := mk_ (i (hon 15 (by kernel_rfl)))
    refine value_ (w1 := w') (v := .slice ay ag.length ax) (by rfl) rfl ?_ ?_
    ·go_simp
     (try simp only [i64_w])
     try rfl
    refine hK.out _ _ ⟨E, p, T, (by rw [ha.out]; exact putSel_upk 11 hb_ rfl rfl rfl), d, s, t, m, fun J => absurd ((hon 8 (by kernel_rfl)).symm.trans J) (by decide), Q_HB, r, j, fun _ ae => absurd ((hon 15 (by kernel_rfl)).symm.trans ae) (by decide), i, I⟩
   refine steps_cons ?_ ?_
   ·rintro b a w' ⟨E, p, T, ha, d, s, t, m, G, Q_HB, r, j, u, i, I⟩ hb_ hon hoff
    refine ⟨_, rfl, fun K hK => ?_⟩
    have cW : a.tmps[41]? = some (.slice ao ab.length am) := by rw [ha]; exact (putSel_off rfl).trans rfl
    replace ha := mk_ ha
    have l := mk_ d
    have B := mk_ s
    have D := mk_ t
    have q := mk_ m
    have HB := mk_ Q_HB
    have z := mk_ (i (hon 15 (by kernel_rfl)))
    refine value_ (w1 := w') (v := .slice ao ab.length am) (by rfl) rfl ?_ ?_
    ·go_simp
     (try simp only [i64_w])
     try rfl
    refine hK.out _ _ ⟨E, p, T, (by rw [ha.out]; exact putSel_upk 12 hb_ rfl rfl rfl), d, s, t, m, fun J => absurd ((hon 8 (by kernel_rfl)).symm.trans J) (by decide), Q_HB, r, j, fun _ ae => absurd ((hon 15 (by kernel_rfl)).symm.trans ae) (by decide), i, I⟩
   refine steps_cons ?_ ?_
   ·rintro b a w' ⟨E, p, T, ha, d, s, t, m, G, Q_HB, r, j, u, i, I⟩ hb_ hon hoff
    refine ⟨_, rfl, fun K hK => ?_⟩
    have cX : a.tmps[57]? = some (.string (((x.extract 0 (L : Int).toNat) ++ (rdOf ByteArray.empty P O)) ++ (x.extract ((U) : Int).toNat x.size))) := by rw [ha]; exact putSel_on (e := (18, 57, .string (((x.extract 0 (L : Int).toNat) ++ (rdOf ByteArray.empty P O)) ++ (x.extract ((U) : Int).toNat x.size)))) 9 rfl rfl (hon 18 (by kernel_rfl)) rfl
    replace ha := mk_ ha
    have l := mk_ d
    have B := mk_ s
    have D := mk_ t
    have q := mk_ m
    have HB := mk_ Q_HB
    have af := mk_ (r (hon 6 (by kernel_rfl)))
    have W := mk_ (j (hon 6 (by kernel_rfl)))
    have z := mk_ (i (hon 15 (by kernel_rfl)))
    refine value_ (w1 := w') (v := .string (((x.extract 0 (L : Int).toNat) ++ (rdOf ByteArray.empty P O)) ++ (x.extract ((U) : Int).toNat x.size))) (by rfl) rfl ?_ ?_
    ·go_simp
     (try simp only [i64_w])
     try rfl
     try (have h_ := aP; simp only [ByteArray.size_append, ByteArray.size_extract] at h_; have k_ : L ≤ (x.size : Int) := oa_; have l_ : 0 ≤ L := oa_; have m_ : U ≤ (x.size : Int) := oa_; have n_ : 0 ≤ U := oa_; omega)
    refine hK.out _ _ ⟨E, p, T, (by rw [ha.out]; exact putSel_upk 13 hb_ rfl rfl rfl), d, s, t, m, fun J => absurd ((hon 8 (by kernel_rfl)).symm.trans J) (by decide), Q_HB, r, j, fun _ ae => absurd ((hon 15 (by kernel_rfl)).symm.trans ae) (by decide), i, I⟩
   exact steps_nil
  rintro b a cY hall ⟨E, p, T, ha, d, s, t, m, G, Q_HB, r, j, u, i, I⟩
  clear q HB z l B D
  have bj := hall 5 (by kernel_rfl)
  have aN := hall 6 (by kernel_rfl)
  have bk := hall 8 (by kernel_rfl)
  have aT := hall 9 (by kernel_rfl)
  have aX := hall 10 (by kernel_rfl)
  have aY := hall 11 (by kernel_rfl)
  have aO := hall 15 (by kernel_rfl)
  have aZ := hall 16 (by kernel_rfl)
  have a0 := hall 17 (by kernel_rfl)
  have a1 := hall 18 (by kernel_rfl)
  have a2 := hall 19 (by kernel_rfl)
  have a3 := hall 20 (by kernel_rfl)
  have a4 := hall 21 (by kernel_rfl)
  have a5 := hall 22 (by kernel_rfl)
  subst ha
  obtain rfl := I aT
  simp only [putSel, bj, aN, bk, aT, aX, aY, aO, aZ, a0, a1, a2, a3, a4, a5, if_true, Act.put, z0_, z1_, z2_]
  have l := mk_ d
  clear d
  have B := mk_ s
  clear s
  have D := mk_ t
  clear t
  have q := mk_ m
  clear m
  clear G
  have HB := mk_ Q_HB
  clear Q_HB
  have af := mk_ (r aN)
  clear r
  have W := mk_ (j aN)
  clear j
  clear u
  have z := mk_ (i aO)
  clear i
  clear hall bj aN bk aT aX aY aO aZ a0 a1 a2 a3 a4 a5
  obtain ⟨cD, bY⟩ := W.out
  clear W
  subst bY
  try go_wp2
  refine bodyPost_ret (results_list (rs := [.tmp 2, .tmp 3, .tmp 4, .tmp 5]) rfl (by simp) (.tmp (.tmp (.tmp (.tmp .nil))))) rfl ?_
  exact ⟨_, _, by first | rfl | (simp [errW_none, errW_some] <;> rfl) | (simp only [← ar]; first | rfl | (simp [errW_none, errW_some] <;> rfl)) | (simp [*, errW_none, errW_some] <;> rfl), by (with_reducible repeat (first | apply Kd.S_alloc | apply Kd.S_drewN | apply Kd.S_drew)); exact B.out, rl_ D.out, hv_⟩
end Go.Proofs.YtcaogllnbpmcgaaDoor.P

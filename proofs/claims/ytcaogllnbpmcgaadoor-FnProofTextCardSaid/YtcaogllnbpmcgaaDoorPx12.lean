/- Go's functions come to just the answers of the Lean functions told here. -/
import Derived.Test.YtcaogllnbpmcgaaDoorPx11
namespace Go.Proofs.YtcaogllnbpmcgaaDoor.P
open Go.RowKit Go.Proofs.YtcaogllnbpmcgaaDoorW.PrintWords Go.Proofs.YtcaogllnbpmcgaaDoorW.PrintLast Go.Proofs.YtcaogllnbpmcgaaDoorW.PrintMore
attribute [local go_sem] max2_int min2_int max_two min_two max_three min_three max_four min_four
set_option linter.unusedVariables false
set_option linter.unusedSimpArgs false
def impl_holds.l0 : Nat → Int → List Bool → List (S82) → Int → Int → Option (Bool)
 | 0, _, _, _, _, _ => none
 | k + 1, x1, x5, x12, x13, x14 => if x14 < x13 then (if 0 ≤ x14 then (if x14 < (x12.length : Int) then (if ((rd_T82 x12 x14).f0) = 0 then (if 0 ≤ ((rd_T82 x12 x14).f1) then (if x5.length < 140737488355328 then (impl_holds.l0 k x1 (x5 ++ [((Go.bits .and .i64 (shr .i64 x1 ((rd_T82 x12 x14).f1)) 1) == 1)]) x12 x13 (wrap64 (x14 + 1))) else (none)) else (none)) else (if ((rd_T82 x12 x14).f0) = 1 then ((bits_OnesCount.f (IntKind.u64.wrap (x1))).bind fun t372 => (if x5.length < 140737488355328 then (impl_holds.l0 k x1 (x5 ++ [decide (t372 ≥ ((rd_T82 x12 x14).f1))]) x12 x13 (wrap64 (x14 + 1))) else (none))) else (if ((rd_T82 x12 x14).f0) = 2 then (if 0 ≤ (wrap64 ((x5.length : Int) - 1)) then (if (wrap64 ((x5.length : Int) - 1)) < (x5.length : Int) then (impl_holds.l0 k x1 (x5.set ((wrap64 ((x5.length : Int) - 1)) : Int).toNat (!(rdOf false x5 (wrap64 ((x5.length : Int) - 1))))) x12 x13 (wrap64 (x14 + 1))) else (none)) else (none)) else (if 0 ≤ (wrap64 ((wrap64 ((x5.length : Int) - 1)) - 1)) then (if (wrap64 ((wrap64 ((x5.length : Int) - 1)) - 1)) < (x5.length : Int) then (if 0 ≤ (wrap64 ((x5.length : Int) - 1)) then (if (wrap64 ((x5.length : Int) - 1)) < (x5.length : Int) then (if (wrap64 ((x5.length : Int) - 1)) ≤ (x5.length : Int) then ((some (x5.take ((wrap64 ((x5.length : Int) - 1)) : Int).toNat : List Bool)).bind fun y380 => (if ((rd_T82 x12 x14).f0) = 3 then (if rdOf false x5 (wrap64 ((wrap64 ((x5.length : Int) - 1)) - 1)) = true then (if (wrap64 ((wrap64 ((x5.length : Int) - 1)) - 1)) < (y380.length : Int) then (impl_holds.l0 k x1 (y380.set ((wrap64 ((wrap64 ((x5.length : Int) - 1)) - 1)) : Int).toNat (rdOf false x5 (wrap64 ((x5.length : Int) - 1)))) x12 x13 (wrap64 (x14 + 1))) else (none)) else (if (wrap64 ((wrap64 ((x5.length : Int) - 1)) - 1)) < (y380.length : Int) then (impl_holds.l0 k x1 (y380.set ((wrap64 ((wrap64 ((x5.length : Int) - 1)) - 1)) : Int).toNat false) x12 x13 (wrap64 (x14 + 1))) else (none))) else (if ((rd_T82 x12 x14).f0) = 4 then (if rdOf false x5 (wrap64 ((wrap64 ((x5.length : Int) - 1)) - 1)) = true then (if (wrap64 ((wrap64 ((x5.length : Int) - 1)) - 1)) < (y380.length : Int) then (impl_holds.l0 k x1 (y380.set ((wrap64 ((wrap64 ((x5.length : Int) - 1)) - 1)) : Int).toNat true) x12 x13 (wrap64 (x14 + 1))) else (none)) else (if (wrap64 ((wrap64 ((x5.length : Int) - 1)) - 1)) < (y380.length : Int) then (impl_holds.l0 k x1 (y380.set ((wrap64 ((wrap64 ((x5.length : Int) - 1)) - 1)) : Int).toNat (rdOf false x5 (wrap64 ((x5.length : Int) - 1)))) x12 x13 (wrap64 (x14 + 1))) else (none))) else (if (wrap64 ((wrap64 ((x5.length : Int) - 1)) - 1)) < (y380.length : Int) then (impl_holds.l0 k x1 (y380.set ((wrap64 ((wrap64 ((x5.length : Int) - 1)) - 1)) : Int).toNat ((rdOf false x5 (wrap64 ((wrap64 ((x5.length : Int) - 1)) - 1))) == (rdOf false x5 (wrap64 ((x5.length : Int) - 1))))) x12 x13 (wrap64 (x14 + 1))) else (none))))) else (none)) else (none)) else (none)) else (none)) else (none))))) else (none)) else (none)) else (if 0 < (x5.length : Int) then (some (rdOf false x5 0)) else (none))
def impl_holds.f (k : Nat) (l0 : List (S82)) (a1 : Int) : Option (Bool) := impl_holds.l0 k a1 (([] : List Bool)) l0 (l0.length : Int) 0
def impl_holds.T7 : Bool × List (List Nat × List Nat) := (true, [([], []), ([], []), ([1], [1]), ([0, 2], [0, 2]), ([3], [3]), ([], []), ([], []), ([5, 6], [5, 6]), ([7], [7]), ([4, 0, 1, 2, 3, 4], [4]), ([8, 9, 0, 1, 2, 3, 4, 5, 6, 7, 8, 9], [8])])
def impl_holds.B7 : List Nat := [0, 0, 2, 7, 15, 0, 0, 96, 224, 31, 1023]
theorem impl_holds.tab7 : rtab .any (opsOf Tryd.f83 7) = impl_holds.T7 := by kernel_rfl
theorem impl_holds.bits7 : waitsOk impl_holds.T7.2 impl_holds.B7 = true := by kernel_rfl
def impl_holds.T18 : Bool × List (List Nat × List Nat) := (true, [([], []), ([], []), ([1], [1]), ([2], [2]), ([], []), ([4], [4]), ([3, 5], [3, 5]), ([6], [6]), ([0, 7, 3], [0, 7]), ([8, 8, 0, 1, 2, 3, 4, 5, 6, 7, 8], [0, 8])])
def impl_holds.B18 : List Nat := [0, 0, 2, 6, 0, 16, 62, 126, 255, 511]
theorem impl_holds.tab18 : rtab .any (opsOf Tryd.f83 18) = impl_holds.T18 := by kernel_rfl
theorem impl_holds.bits18 : waitsOk impl_holds.T18.2 impl_holds.B18 = true := by kernel_rfl
set_option maxHeartbeats 8000000 in
set_option maxRecDepth 100000 in
theorem impl_holds.calls (k : Nat) (A0 : Option Addr) (c0 : Nat) (l0 : List (S82)) (a1 : Int) (r : Bool) (w : World) (hr0 : Kd.C k82 w A0 l0.length l0) (hc0 : l0.length ≤ c0) (h : impl_holds.f k l0 a1 = some r) :
  Calls Tryd.prog 83 #[.slice A0 l0.length c0, .int .i64 a1] w fun e w' => e = .returned (.bool r) ∧ Below w.heap.size w w' := by
 have hu82 := Tryd.underlying82
 have HR0 := mk_ hr0
 have HC0 := mk_ hc0
 clear hr0 hc0
 have HB := mk_ (Below.refl w.heap.size w)
 have H : (impl_holds.l0 k a1 (([] : List Bool)) l0 (l0.length : Int) 0) = some r := h
 clear h
 obtain ⟨y363, hy363⟩ : ∃ y_ : List Bool, y_ = (([] : List Bool)) := ⟨_, rfl⟩
 replace H : (impl_holds.l0 k a1 y363 l0 (l0.length : Int) 0) = some r := by first | (rw [hy363]; exact H) | exact H
 have Ny363 := mk_ hy363
 clear hy363
 have H' := mk_ H
 clear H
 go_enter Tryd.func83, Tryd.ntmps83
 go_wp2_with (first | ((with_reducible refine gate_dst (N := 11) rfl ?_); refine Kd.R_lit Kd.bool _ 4 ?hg (N := 11) ?hd (xs := ([] : List Bool)) (inner := []) (ok := fun _ => True) (okp := fun _ => True) ?hr ?hp (fun _ hk => hk) trivial (Below.refl _ _) (Nat.le_refl _) (by simp) ?_; (case hd => rfl); (case hg => rfl); (case hr => first | (go_simp; done) | (go_simp; rfl)); (case hp => exact (Reps.none _ _)); intro v364 w3 ho4 hb hg_ hnew_; clear hg_ hnew_; (first | rw [← Ny363.out] at ho4 | (simp only [Int.reduceToNat] at ho4; rw [← Ny363.out] at ho4)); have HO365 := mk_ (Kd.R_lower ho4 (below_size (below_at HB.out))); replace HB := mk_ (below_step (below_at HB.out) hb); clear hb ho4))
 go_loopg [5, 14] k (fun kq v5 v14 w' => ∃ (x5_1 : List Bool) (x14_1 : Int), v14 = .int .i64 x14_1 ∧ Aside0 (impl_holds.l0 kq a1 x5_1 l0 (l0.length : Int) x14_1 = some r) ∧ Aside0 (kq ≤ k) ∧ Aside0 (Kd.R Kd.bool 4 w' w.heap.size (fun _ => True) v5 x5_1) ∧ Aside0 (Below w.heap.size w w'))
 case atStart => exact ⟨(y363), (0), sm_, H', ⟨Nat.le_refl _⟩, ⟨Kd.R_below HO365.out lt_⟩, ⟨below_at HB.out⟩⟩
 clear H'
 try clear p2
 obtain ⟨x5_1, x14_1, rfl, HA, HK1, HO_5, HB⟩ := hrel
 cases gk with
 | zero => exact absurd HA.out (by simp [impl_holds.l0])
 | succ k1 =>
  have H := HA.out
  clear HA
  simp only [impl_holds.l0] at H
  revert H; refine ti_ (df_ fun c5b0 H => ?_) (dt_ fun c5b0 H => ?_)
  ·revert H; refine g_ (fun c105 H => ?_)
   have c105b0 : decide (0 < (x5_1.length : Int)) = true := decide_eq_true c105
   have c105b1 : decide (0 < x5_1.length) = true := decide_eq_true (by omega)
   clear c105
   obtain rfl := Option.some.inj H
   obtain ⟨Ao106, co106, eo106⟩ := Kd.R_slice HO_5.out
   subst eo106
   have p366 : 0 ≤ (0 : Int) := (by omega)
   have q366 : 0 < (x5_1.length : Int) := oa_
   obtain ⟨ad366, e366, hx366_0⟩ := Kd.at_bool (Kd.R_reads' HO_5.out).2.2 0 p366 q366
   cases e366
   have qi366 : (0 < x5_1.length) = True := eq_true (by omega)
   (try rw [show ((0 : Int)).toNat = 0 from rfl] at hx366_0)
   (try rw [Addr.add_zero'] at hx366_0)
   replace p366 := eq_true p366
   replace q366 := eq_true q366
   go_wp2
   go_ret
   exact ⟨er_, below_at HB.out⟩
  revert H; refine g_ (dt_ fun c6b0 => g_ (dt_ fun c7b0 => it_ (qt_ fun c8b0 c8b1 H => ?_) (qfk_ fun c8 c8b0 c8b1 H => ?_)))
  ·revert H; refine g_ (et_ fun c9b0 c9b1 H => ?_)
   obtain ⟨ji10, hji10⟩ : ∃ j_ : Int, (shr .i64 a1 ((rd_T82 l0 x14_1).f1)) = j_ := ⟨_, rfl⟩
   first | rw [hji10] at H | simp only [hji10] at H
   have hji10_ : (a1 / 2 ^ min ((rd_T82 l0 x14_1).f1).toNat 64) = ji10 := hji10
   have hji10z : ((rd_T82 l0 x14_1).f1) ≤ 64 → (a1 / 2 ^ ((rd_T82 l0 x14_1).f1).toNat) = ji10 := shr_small hji10
   revert H; refine g_ (mt_ fun LMc11 H => ?_)
   obtain ⟨y369, hy369⟩ : ∃ y_ : List Bool, y_ = (x5_1 ++ [((Go.bits .and .i64 (ji10) 1) == 1)]) := ⟨_, rfl⟩
   first | (replace H := bn_ hy369 H; try dsimp only at H) | rw [← hy369] at H
   have Ny369 := mk_ hy369
   clear hy369
   have H' := mk_ H
   clear H
   have p367 : 0 ≤ (x14_1 : Int) := oa_
   have q367 : x14_1 < (l0.length : Int) := oa_
   obtain ⟨ad367, e367, hx367_0, hx367_1⟩ := at_T82 HR0.out x14_1 p367 q367
   cases e367
   replace hx367_0 := cel HB.out hx367_0
   replace hx367_1 := cel HB.out hx367_1
   replace p367 := eq_true p367
   replace q367 := eq_true q367
   go_wp2_with (first | (refine gx_ 7 #[.int .i64 0, .int .i64 0] 82 ?_; intro gb368 hg w12 hbox hb; replace HO_5 := mk_ (Kd.R_below (Kd.R_below HO_5.out lt_) hb); have BK368 := mk_ (hbox); have GW368 := gm_ hg HB.out; have GE368 := gm_ hg HB.out; replace HB := mk_ (below_step (below_at HB.out) hb); clear hb hbox hg; have hcz13_0 := blk_cell BK368.out 0; have hcz13_1 := blk_cell BK368.out 1; have hfz13_0 := blk_frozen BK368.out 0; have hfz13_1 := blk_frozen BK368.out 1; obtain ⟨Ao14, co14, eo14⟩ := Kd.R_slice HO_5.out; subst eo14) | ((with_reducible refine gate_builtin (b := .append) (xs := #[.tmp 66, .tmp 73]) rfl ?_); at_builtin; refine Kd.R_append Kd.bool (w0 := w) w.heap.size rfl (.tmp 66) (.tmp 73) 63 4 (.bool false) 1 rfl Tryd.underlying63 info4 rfl (by decide) (by omega) (.slice Ao14 x5_1.length co14) x5_1 ((Go.bits .and .i64 (ji10) 1) == 1) [.bool ((Go.bits .and .i64 (ji10) 1) == 1)] (fun _ => True) (fun _ => False) rfl (by first | (go_simp; done) | (go_simp; rfl)) ?aP (fun _ hk => hk.elim) ?aF ?aO ?aB ?aS ?aL ?_; (case aP => exact rfl); (case aB => exact (at_ HB.out)); (case aF => exact (fun _ _ => trivial)); (case aO => exact (by (with_reducible repeat (first | apply Kd.R_alloc | apply Kd.R_drewN | apply Kd.R_drew)); exact Kd.R_mono (Kd.R_far (p := ⟨gb368, 1, none⟩) (Kd.R_far (p := ⟨gb368, 0, none⟩) (Kd.R_types HO_5.out BK368.out (by decide)) (fun _ hk => hk.2) (.int .i64 ((rd_T82 l0 x14_1).f0))) (fun _ hk => hk.2) (.int .i64 ((rd_T82 l0 x14_1).f1))) (fun _ hk => trivial))); (case aS => exact (below_size (at_ HB.out))); (case aL => have := LMc11.out; omega); intro v370 w15 ho hb hg hat; rw [← Ny369.out] at ho; replace HB := mk_ (hb); have HO371 := mk_ (ho); (try clear BK368 HO_5); clear ho hb hg hat))
   go_roundg k1
   case measure => have := HK1.out; omega
   case rel => exact ⟨(y369), (wrap64 (x14_1 + 1)), sm_, H', ⟨by have := HK1.out; omega⟩, ⟨Kd.R_below HO371.out lt_⟩, ⟨at_ HB.out⟩⟩
  revert H; refine it_ (qt_ fun c16b0 c16b1 H => ?_) (qfk_ fun c16 c16b0 c16b1 H => ?_)
  ·revert H; refine bd_ fun t372 A17 H => ?_
   try dsimp only at H
   revert H; refine g_ (mt_ fun LMc18 H => ?_)
   obtain ⟨y373, hy373⟩ : ∃ y_ : List Bool, y_ = (x5_1 ++ [decide (t372 ≥ ((rd_T82 l0 x14_1).f1))]) := ⟨_, rfl⟩
   first | (replace H := bn_ hy373 H; try dsimp only at H) | rw [← hy373] at H
   have Ny373 := mk_ hy373
   clear hy373
   have H' := mk_ H
   clear H
   have p367 : 0 ≤ (x14_1 : Int) := oa_
   have q367 : x14_1 < (l0.length : Int) := oa_
   obtain ⟨ad367, e367, hx367_0, hx367_1⟩ := at_T82 HR0.out x14_1 p367 q367
   cases e367
   replace hx367_0 := cel HB.out hx367_0
   replace hx367_1 := cel HB.out hx367_1
   replace p367 := eq_true p367
   replace q367 := eq_true q367
   try go_wp2_with (first | (refine gx_ 7 #[.int .i64 0, .int .i64 0] 82 ?_; intro gb368 hg w19 hbox hb; replace HO_5 := mk_ (Kd.R_below (Kd.R_below HO_5.out lt_) hb); have BK368 := mk_ (hbox); have GW368 := gm_ hg HB.out; have GE368 := gm_ hg HB.out; replace HB := mk_ (below_step (below_at HB.out) hb); clear hb hbox hg; have hcz20_0 := blk_cell BK368.out 0; have hcz20_1 := blk_cell BK368.out 1; have hfz20_0 := blk_frozen BK368.out 0; have hfz20_1 := blk_frozen BK368.out 1; obtain ⟨Ao21, co21, eo21⟩ := Kd.R_slice HO_5.out; subst eo21))
   have n0_ : Aside0 (Kd.R Kd.bool 4 ((w19.setCell ⟨gb368, 0, none⟩ (.int .i64 ((rd_T82 l0 x14_1).f0))).setCell ⟨gb368, 1, none⟩ (.int .i64 ((rd_T82 l0 x14_1).f1))) w.heap.size (fun _ => True) (.slice Ao21 x5_1.length co21) x5_1) := ⟨by (with_reducible repeat (first | apply Kd.R_alloc | apply Kd.R_drewN | apply Kd.R_drew)); exact Kd.R_mono (Kd.R_far (p := ⟨gb368, 1, none⟩) (Kd.R_far (p := ⟨gb368, 0, none⟩) (Kd.R_types HO_5.out BK368.out (by decide)) (fun _ hk => hk.2) (.int .i64 ((rd_T82 l0 x14_1).f0))) (fun _ hk => hk.2) (.int .i64 ((rd_T82 l0 x14_1).f1))) (fun _ hk => trivial)⟩
   have n1_ : Aside0 (((w19.setCell ⟨gb368, 0, none⟩ (.int .i64 ((rd_T82 l0 x14_1).f0))).setCell ⟨gb368, 1, none⟩ (.int .i64 ((rd_T82 l0 x14_1).f1))).heap[gb368]? = some (.cells #[.int .i64 ((rd_T82 l0 x14_1).f0), .int .i64 ((rd_T82 l0 x14_1).f1)] 82 (0, 0))) := ⟨by refine bs_ ?_; refine blk_put (cs := #[.int .i64 ((rd_T82 l0 x14_1).f0), .int .i64 0]) ?_ 1 _ rfl; refine bs_ ?_; refine blk_put (cs := #[.int .i64 0, .int .i64 0]) ?_ 0 _ rfl; refine bs_ ?_; exact BK368.out⟩
   have n2_ : Aside0 (Below w.heap.size w ((w19.setCell ⟨gb368, 0, none⟩ (.int .i64 ((rd_T82 l0 x14_1).f0))).setCell ⟨gb368, 1, none⟩ (.int .i64 ((rd_T82 l0 x14_1).f1)))) := ⟨at_ HB.out⟩
   (try clear HO_5)
   (try clear BK368)
   (try clear HB)
   generalize ((w19.setCell ⟨gb368, 0, none⟩ (.int .i64 ((rd_T82 l0 x14_1).f0))).setCell ⟨gb368, 1, none⟩ (.int .i64 ((rd_T82 l0 x14_1).f1))) = w22 at n0_ n1_ n2_ ⊢
   have HO_5 := n0_
   have BK368 := n1_
   have HB := n2_
   clear n0_ n1_ n2_
   replace HO_5 := mk_ (Kd.R_drew HO_5.out)
   replace BK368 := mk_ (blk_drew BK368.out)
   replace HB := mk_ (below_drew1 HB.out)
   refine start_ (n := 10) (S := fun w' => w'.cell? ⟨gb368, 0, none⟩ = some (.int .i64 ((rd_T82 l0 x14_1).f0)) ∧ w'.cell? ⟨gb368, 1, none⟩ = some (.int .i64 ((rd_T82 l0 x14_1).f1))) (ds := []) #[false, false, false, false, false, false, false, false, false, false] (by kernel_rfl) rfl rfl ⟨(blk_cell BK368.out 0).trans rfl, (blk_cell BK368.out 1).trans rfl⟩ (fun hHeld => ?_); refine with_tabW impl_holds.tab18 impl_holds.bits18 (fun HT_ HW_ => ?_)
   generalize w22.drew = w23 at HO_5 BK368 HB hHeld ⊢
   refine pus_ 0 (some 77) (ao_ HT_) ?_
   refine pus_ 1 (some 78) (ao_ HT_) ?_
   refine pus_ 2 (some 79) (ao_ HT_) ?_
   refine pus_ 4 (some 81) (ao_ HT_) ?_
   refine tas_ 5 (some 82) (to_ HT_ HW_) hHeld ?_
   refine ons_ 3 (some 80) (oo_ HT_) (fun K hK => ?_)
   refine goes_ Tryd.func94 (by kernel_rfl) rfl #[.int .u64 (IntKind.u64.wrap (a1))] (by rfl) rfl rfl gl_ ?_
   with_reducible refine (bits_OnesCount.calls (IntKind.u64.wrap (a1)) t372 _ A17.out).mono ?_
   rintro e w' ⟨rfl, ⟨nd, rfl⟩⟩
   refine ⟨_, rfl, ?_⟩
   refine hK.out _ _ ⟨(blk_cell BK368.out 0).trans rfl, (blk_cell BK368.out 1).trans rfl⟩ (fun hHeld => ?_)
   clear hK K
   refine nor_ (some 80) ?_
   refine pus_ 6 (some 83) (ao_ HT_) ?_
   refine ons_ 7 (some 84) (oo_ HT_) (fun K hK => ?_)
   refine value_ (w1 := ?_) (v := ?_) (by rfl) rfl ?_ ?_
   rotate_left 2
   ·go_simp
    constructor
    ·rfl
    rfl
   refine hK.out _ _ ⟨(blk_cell (blk_alloc BK368.out _) 0).trans rfl, (blk_cell (blk_alloc BK368.out _) 1).trans rfl⟩ (fun hHeld => ?_)
   clear hK K
   refine nor_ (some 84) ?_
   refine ons_ 8 (some 85) (oo_ HT_) (fun K hK => ?_)
   refine Kd.R_append_step Kd.bool (w0 := w) w.heap.size (by rfl) (.tmp 77) (.tmp 84) 63 4 (.bool false) 1 rfl Tryd.underlying63 info4 rfl (by decide) (by omega) (.slice Ao21 x5_1.length co21) x5_1 (decide (t372 ≥ ((rd_T82 l0 x14_1).f1))) [.bool (decide (t372 ≥ ((rd_T82 l0 x14_1).f1)))] (fun _ => True) (fun _ => False) rfl rfl ?aP (fun _ hk => hk.elim) ?aF ?aO ?aB ?aS ?aL ?_
   (case aP => exact rfl)
   (case aB => exact (at_ HB.out))
   (case aF => exact (fun _ _ => trivial))
   (case aO => exact (Kd.R_below HO_5.out lt_))
   (case aS => exact (below_size (at_ HB.out)))
   (case aL => have := LMc18.out; omega)
   intro v374 w24 ho hb hg hat
   rw [← Ny373.out] at ho
   replace BK368 := mk_ (blk_grown (g := gb368) (o := .cells #[.int .i64 ((rd_T82 l0 x14_1).f0), .int .i64 ((rd_T82 l0 x14_1).f1)] 82 (0, 0)) (bk_ BK368.out) hg (Kd.R_ne HO_5.out BK368.out (by decide)))
   replace HB := mk_ (hb)
   have HO375 := mk_ (ho)
   (try clear HO_5)
   clear ho hb hg hat
   refine hK.out _ _ ⟨(blk_cell BK368.out 0).trans rfl, (blk_cell BK368.out 1).trans rfl⟩ (fun hHeld => ?_)
   clear hK K
   refine nor_ (some 85) ?_
   refine pus_ 9 (some 5) (ao_ HT_) ?_
   refine done_ (done_of HT_.out (by kernel_rfl)) ?_
   try go_wp2
   go_roundg k1
   case measure => have := HK1.out; omega
   case rel => exact ⟨(y373), (wrap64 (x14_1 + 1)), sm_, H', ⟨by have := HK1.out; omega⟩, ⟨Kd.R_below HO375.out lt_⟩, ⟨at_ HB.out⟩⟩
  revert H; refine it_ (qt_ fun c25b0 c25b1 H => ?_) (qfk_ fun c25 c25b0 c25b1 H => ?_)
  ·obtain ⟨ji26, hji26⟩ : ∃ j_ : Int, (wrap64 ((x5_1.length : Int) - 1)) = j_ := ⟨_, rfl⟩
   first | rw [hji26] at H | simp only [hji26] at H
   have hji26w : (IntKind.i64.wrap ((x5_1.length : Int) - 1)) = ji26 := (i64_w _).trans hji26
   revert H; refine g_ (dt_ fun c27b0 => g_ (dt_ fun c28b0 H => ?_))
   obtain ⟨y377, hy377⟩ : ∃ y_ : List Bool, y_ = (x5_1.set ((ji26) : Int).toNat (!(rdOf false x5_1 (ji26)))) := ⟨_, rfl⟩
   first | (replace H := bn_ hy377 H; try dsimp only at H) | rw [← hy377] at H
   have Ny377 := mk_ hy377
   clear hy377
   have H' := mk_ H
   clear H
   have p367 : 0 ≤ (x14_1 : Int) := oa_
   have q367 : x14_1 < (l0.length : Int) := oa_
   obtain ⟨ad367, e367, hx367_0, hx367_1⟩ := at_T82 HR0.out x14_1 p367 q367
   cases e367
   replace hx367_0 := cel HB.out hx367_0
   replace hx367_1 := cel HB.out hx367_1
   replace p367 := eq_true p367
   replace q367 := eq_true q367
   go_wp2_with (first | (refine gx_ 7 #[.int .i64 0, .int .i64 0] 82 ?_; intro gb368 hg w30 hbox hb; replace HO_5 := mk_ (Kd.R_below (Kd.R_below HO_5.out lt_) hb); have BK368 := mk_ (hbox); have GW368 := gm_ hg HB.out; have GE368 := gm_ hg HB.out; replace HB := mk_ (below_step (below_at HB.out) hb); clear hb hbox hg; have hcz31_0 := blk_cell BK368.out 0; have hcz31_1 := blk_cell BK368.out 1; have hfz31_0 := blk_frozen BK368.out 0; have hfz31_1 := blk_frozen BK368.out 1) | ((with_reducible refine gate_store (t := 82) (p := 7) rfl ?_); refine store_event (t := 82) (p := 7) (v := ?vo_w32) (w1 := ((w30.setCell ⟨gb368, 0, none⟩ (.int .i64 ((rd_T82 l0 x14_1).f0))).setCell ⟨gb368, 1, none⟩ (.int .i64 ((rd_T82 l0 x14_1).f1)))) ?hg ?ho ?hn ?hr ?_; (case ho => rfl); (case hg => rfl); (case hn => rfl); (case hr => first | (go_simp; done) | (go_simp; rfl)); intro w32 hw; have n0_ : Aside0 (Kd.R Kd.bool 4 w32 w.heap.size (fun _ => True) u5 x5_1) := ⟨(by rw [hw]; exact (by (with_reducible repeat (first | apply Kd.R_alloc | apply Kd.R_drewN | apply Kd.R_drew)); exact Kd.R_mono (Kd.R_far (p := ⟨gb368, 1, none⟩) (Kd.R_far (p := ⟨gb368, 0, none⟩) (Kd.R_types HO_5.out BK368.out (by decide)) (fun _ hk => hk.2) (.int .i64 ((rd_T82 l0 x14_1).f0))) (fun _ hk => hk.2) (.int .i64 ((rd_T82 l0 x14_1).f1))) (fun _ hk => trivial)))⟩; have n1_ : Aside0 (w32.heap[gb368]? = some (.cells #[.int .i64 ((rd_T82 l0 x14_1).f0), .int .i64 ((rd_T82 l0 x14_1).f1)] 82 (0, 0))) := ⟨(by rw [hw]; exact (by refine bs_ ?_; refine blk_put (cs := #[.int .i64 ((rd_T82 l0 x14_1).f0), .int .i64 0]) ?_ 1 _ rfl; refine bs_ ?_; refine blk_put (cs := #[.int .i64 0, .int .i64 0]) ?_ 0 _ rfl; refine bs_ ?_; exact BK368.out))⟩; have n2_ : Aside0 (Below w.heap.size w w32) := ⟨(by rw [hw]; exact (at_ HB.out))⟩; clear hw; clear HO_5; clear BK368; clear HB; have HO_5 := n0_; have BK368 := n1_; have HB := n2_; clear n0_ n1_ n2_; obtain ⟨Ao33, co33, eo33⟩ := Kd.R_slice HO_5.out; subst eo33; have hcz34_0 := blk_cell BK368.out 0; have hcz34_1 := blk_cell BK368.out 1; have hfz34_0 := blk_frozen BK368.out 0; have hfz34_1 := blk_frozen BK368.out 1; have p376 : 0 ≤ ((ji26) : Int) := oa_; have q376 : (ji26) < (x5_1.length : Int) := oa_; obtain ⟨ad376, e376, hx376_0⟩ := Kd.at_bool (Kd.R_reads' HO_5.out).2.2 (ji26) p376 q376; cases e376; replace p376 := eq_true p376; replace q376 := eq_true q376; have p29 : 0 ≤ ((ji26) : Int) := oa_; have q29 : ((ji26) : Int) < ((x5_1.length : Int) : Int) := oa_; obtain ⟨go29, co29, eo29, gb29, gl29, cl29, HG29⟩ := Kd.R_form HO_5.out (by omega); (first | cases eo29 | (injection eo29 with ea_ en_ ec_; (first | subst ea_ | (injection ea_ with ea_; subst ea_)); subst ec_; clear en_)); have GB29 := mk_ gb29; have GG29 := mk_ HG29; clear gb29 gl29 HG29; (first | simp only [add_plain] at hx376_0 | skip); obtain ⟨hx29_0, hf29_0⟩ := Kd.R_celln false HO_5.out ((ji26) : Int) p29 q29; replace p29 := eq_true p29; replace q29 := eq_true q29; obtain ⟨hy35_, hz35_⟩ := Kd.R_celln false HO_5.out ((ji26) : Int) (oa_) (oa_); have HP35 := Kd.R_putg HO_5.out ((ji26) : Int) (!(rdOf false x5_1 (ji26)))) | ((with_reducible refine gate_store (t := 4) (p := 95) rfl ?_); refine store_event (t := 4) (p := 95) (v := ?vo_w36) (w1 := (w32.setCell ⟨go29, ((ji26) : Int).toNat, none⟩ (.bool (!(rdOf false x5_1 (ji26)))))) ?hg ?ho ?hn ?hr ?_; (case ho => rfl); (case hg => rfl); (case hn => rfl); (case hr => first | (go_simp; done) | (go_simp; rfl)); intro w36 hw; have hg : w32.grownBy w36 (some go29) := (by rw [hw]; exact HP35.2); have hp_ : Kd.R Kd.bool 4 w36 w.heap.size (fun _ => True) (.slice (some ⟨go29, 0, none⟩) x5_1.length co33) y377 := (by rw [hw, Ny377.out]; exact HP35.1); clear HP35; replace HO_5 := mk_ (hp_); replace HB := mk_ ((by rw [hw]; exact below_set (HB.out) GB29.out : Below w.heap.size w w36)); (try clear BK368); clear hg hw hp_))
   (try subst hji26)
   go_roundg k1
   case measure => have := HK1.out; omega
   case rel => exact ⟨(y377), (wrap64 (x14_1 + 1)), sm_, H', ⟨by have := HK1.out; omega⟩, ⟨Kd.R_below HO_5.out lt_⟩, ⟨at_ HB.out⟩⟩
  obtain ⟨ji37, hji37⟩ : ∃ j_ : Int, (wrap64 ((wrap64 ((x5_1.length : Int) - 1)) - 1)) = j_ := ⟨_, rfl⟩
  first | rw [hji37] at H | simp only [hji37] at H
  have hji37w : (IntKind.i64.wrap ((wrap64 ((x5_1.length : Int) - 1)) - 1)) = ji37 := (i64_w _).trans hji37
  revert H; refine g_ (dt_ fun c38b0 => g_ (dt_ fun c39b0 H => ?_))
  obtain ⟨ji40, hji40⟩ : ∃ j_ : Int, (wrap64 ((x5_1.length : Int) - 1)) = j_ := ⟨_, rfl⟩
  (try have hji37_ji40 : (wrap64 (ji40 - 1)) = ji37 := by (rw [← hji40]; exact hji37))
  (try have hji37w_ji40 : (IntKind.i64.wrap (ji40 - 1)) = ji37 := (i64_w _).trans hji37_ji40)
  first | rw [hji40] at H | simp only [hji40] at H
  have hji40w : (IntKind.i64.wrap ((x5_1.length : Int) - 1)) = ji40 := (i64_w _).trans hji40
  revert H; refine g_ (dt_ fun c41b0 => g_ (dt_ fun c42b0 => g_ (et_ fun c43b0 c43b1 H => ?_)))
  obtain ⟨y380, hy380⟩ : ∃ y_ : List Bool, y_ = (x5_1.take ((ji40) : Int).toNat) := ⟨_, rfl⟩
  first | (replace H := bn_ hy380 H; try dsimp only at H) | rw [← hy380] at H
  have Ny380 := mk_ hy380
  clear hy380
  revert H; refine it_ (qt_ fun c44b0 c44b1 H => ?_) (qfk_ fun c44 c44b0 c44b1 H => ?_)
  ·obtain ⟨bq45, hbq45⟩ : ∃ b_ : Bool, b_ = (rdOf false x5_1 (ji37)) := ⟨_, rfl⟩
   replace H : (if bq45 = true then (if (ji37) < (y380.length : Int) then (impl_holds.l0 k1 a1 (y380.set ((ji37) : Int).toNat (rdOf false x5_1 (ji40))) l0 (l0.length : Int) (wrap64 (x14_1 + 1))) else (none)) else (if (ji37) < (y380.length : Int) then (impl_holds.l0 k1 a1 (y380.set ((ji37) : Int).toNat false) l0 (l0.length : Int) (wrap64 (x14_1 + 1))) else (none))) = some r := by rw [← hbq45] at H; exact H
   have Nbq45 := mk_ hbq45
   clear hbq45
   revert H; refine ib_ ?_ ?_ <;> rintro rfl H
   ·revert H; refine g_ (dt_ fun c47b0 H => ?_)
    obtain ⟨y383, hy383⟩ : ∃ y_ : List Bool, y_ = (y380.set ((ji37) : Int).toNat (rdOf false x5_1 (ji40))) := ⟨_, rfl⟩
    first | (replace H := bn_ hy383 H; try dsimp only at H) | rw [← hy383] at H
    have Ny383 := mk_ hy383
    clear hy383
    have H' := mk_ H
    clear H
    have p367 : 0 ≤ (x14_1 : Int) := oa_
    have q367 : x14_1 < (l0.length : Int) := oa_
    obtain ⟨ad367, e367, hx367_0, hx367_1⟩ := at_T82 HR0.out x14_1 p367 q367
    cases e367
    replace hx367_0 := cel HB.out hx367_0
    replace hx367_1 := cel HB.out hx367_1
    replace p367 := eq_true p367
    replace q367 := eq_true q367
    try go_wp2_with (first | (refine gx_ 7 #[.int .i64 0, .int .i64 0] 82 ?_; intro gb368 hg w49 hbox hb; replace HO_5 := mk_ (Kd.R_below (Kd.R_below HO_5.out lt_) hb); have BK368 := mk_ (hbox); have GW368 := gm_ hg HB.out; have GE368 := gm_ hg HB.out; replace HB := mk_ (below_step (below_at HB.out) hb); clear hb hbox hg; have hcz50_0 := blk_cell BK368.out 0; have hcz50_1 := blk_cell BK368.out 1; have hfz50_0 := blk_frozen BK368.out 0; have hfz50_1 := blk_frozen BK368.out 1; obtain ⟨Ao51, co51, eo51⟩ := Kd.R_slice HO_5.out; subst eo51))
    have n0_ : Aside0 (Kd.R Kd.bool 4 ((w49.setCell ⟨gb368, 0, none⟩ (.int .i64 ((rd_T82 l0 x14_1).f0))).setCell ⟨gb368, 1, none⟩ (.int .i64 ((rd_T82 l0 x14_1).f1))) w.heap.size (fun _ => True) (.slice Ao51 x5_1.length co51) x5_1) := ⟨by (with_reducible repeat (first | apply Kd.R_alloc | apply Kd.R_drewN | apply Kd.R_drew)); exact Kd.R_mono (Kd.R_far (p := ⟨gb368, 1, none⟩) (Kd.R_far (p := ⟨gb368, 0, none⟩) (Kd.R_types HO_5.out BK368.out (by decide)) (fun _ hk => hk.2) (.int .i64 ((rd_T82 l0 x14_1).f0))) (fun _ hk => hk.2) (.int .i64 ((rd_T82 l0 x14_1).f1))) (fun _ hk => trivial)⟩
    have n1_ : Aside0 (((w49.setCell ⟨gb368, 0, none⟩ (.int .i64 ((rd_T82 l0 x14_1).f0))).setCell ⟨gb368, 1, none⟩ (.int .i64 ((rd_T82 l0 x14_1).f1))).heap[gb368]? = some (.cells #[.int .i64 ((rd_T82 l0 x14_1).f0), .int .i64 ((rd_T82 l0 x14_1).f1)] 82 (0, 0))) := ⟨by refine bs_ ?_; refine blk_put (cs := #[.int .i64 ((rd_T82 l0 x14_1).f0), .int .i64 0]) ?_ 1 _ rfl; refine bs_ ?_; refine blk_put (cs := #[.int .i64 0, .int .i64 0]) ?_ 0 _ rfl; refine bs_ ?_; exact BK368.out⟩
    have n2_ : Aside0 (Below w.heap.size w ((w49.setCell ⟨gb368, 0, none⟩ (.int .i64 ((rd_T82 l0 x14_1).f0))).setCell ⟨gb368, 1, none⟩ (.int .i64 ((rd_T82 l0 x14_1).f1)))) := ⟨at_ HB.out⟩
    (try clear HO_5)
    (try clear BK368)
    (try clear HB)
    generalize ((w49.setCell ⟨gb368, 0, none⟩ (.int .i64 ((rd_T82 l0 x14_1).f0))).setCell ⟨gb368, 1, none⟩ (.int .i64 ((rd_T82 l0 x14_1).f1))) = w52 at n0_ n1_ n2_ ⊢
    have HO_5 := n0_
    have BK368 := n1_
    have HB := n2_
    clear n0_ n1_ n2_
    replace HO_5 := mk_ (Kd.R_drew HO_5.out)
    replace BK368 := mk_ (blk_drew BK368.out)
    replace HB := mk_ (below_drew1 HB.out)
    have p378 : 0 ≤ ((ji37) : Int) := oa_
    have q378 : (ji37) < (x5_1.length : Int) := oa_
    obtain ⟨ad378, e378, hx378_0⟩ := Kd.at_bool (Kd.R_reads' HO_5.out).2.2 (ji37) p378 q378
    (try rw [← Nbq45.out] at hx378_0)
    cases e378
    replace p378 := eq_true p378
    replace q378 := eq_true q378
    have p379 : 0 ≤ ((ji40) : Int) := oa_
    have q379 : (ji40) < (x5_1.length : Int) := oa_
    obtain ⟨ad379, e379, hx379_0⟩ := Kd.at_bool (Kd.R_reads' HO_5.out).2.2 (ji40) p379 q379
    (try rw [← Nbq45.out] at hx379_0)
    obtain rfl : ad378 = ad379 := (by injection e379)
    replace p379 := eq_true p379
    replace q379 := eq_true q379
    refine start_ (n := 11) (S := fun w' => w'.cell? (ad378.add ((ji37)).toNat) = some (.bool true) ∧ w'.cell? (ad378.add ((ji40)).toNat) = some (.bool (rdOf false x5_1 (ji40)))) (ds := []) #[false, false, false, false, false, false, false, false, false, false, false] (by kernel_rfl) rfl rfl ⟨hx378_0, hx379_0⟩ (fun hHeld => ?_); refine with_tabW impl_holds.tab7 impl_holds.bits7 (fun HT_ HW_ => ?_)
    generalize w52.drew = w53 at HO_5 BK368 HB hx378_0 hx379_0 hHeld ⊢
    refine pus_ 0 (some 23) (ao_ HT_) ?_
    refine pus_ 1 (some 24) (ao_ HT_) ?_
    refine pus_ 2 (some 25) (ao_ HT_) ?_
    refine pus_ 3 (some 26) (ao_ HT_) ?_
    refine pus_ 5 (some 28) (ao_ HT_) ?_
    refine pus_ 6 (some 29) (ao_ HT_) ?_
    refine pus_ 7 (some 30) (ao_ HT_) ?_
    refine tas_ 4 (some 27) (to_ HT_ HW_) hHeld ?_
    refine pus_ 9 (some 9) (ao_ HT_) ?_
    refine tas_ 8 (some 31) (to_ HT_ HW_) hHeld ?_
    refine pus_ 10 (some 10) (ao_ HT_) ?_
    refine done_ (done_of HT_.out (by kernel_rfl)) ?_
    have q54 : ((ji40) : Int) ≤ ((x5_1.length : Int) : Int) := oa_
    obtain ⟨i054, hi054, _, hsz54, _⟩ := info_parts info4
    have hcut54 := cut_to (P := Tryd.prog) 63 4 .i64 Tryd.underlying63 hi054 (some ad378) x5_1.length co51 (ji40) (oa_) q54 (Kd.R_reads' HO_5.out).2.1
    have hr54 := Kd.R_take (m := ((ji40) : Int).toNat) HO_5.out (by omega)
    have hy54 : y380.length = ((ji40) : Int).toNat := (by rw [Ny380.out, List.length_take]; omega)
    rw [← Ny380.out] at hr54
    rw [← hy54] at hr54 hcut54
    clear hy54 hi054 hsz54 HO_5
    have HO382 := mk_ hr54
    clear hr54
    replace q54 := eq_true q54
    have hcz55_0 := blk_cell BK368.out 0
    have hcz55_1 := blk_cell BK368.out 1
    have hfz55_0 := blk_frozen BK368.out 0
    have hfz55_1 := blk_frozen BK368.out 1
    have p48 : 0 ≤ ((ji37) : Int) := oa_
    have q48 : ((ji37) : Int) < ((y380.length : Int) : Int) := oa_
    obtain ⟨go48, co48, eo48, gb48, gl48, cl48, HG48⟩ := Kd.R_form HO382.out (by omega)
    (first | cases eo48 | (injection eo48 with ea_ en_ ec_; (first | subst ea_ | (injection ea_ with ea_; subst ea_)); subst ec_; clear en_))
    have GB48 := mk_ gb48
    have GG48 := mk_ HG48
    clear gb48 gl48 HG48
    (first | simp only [add_plain] at hx378_0 | skip)
    (first | simp only [add_plain] at hx379_0 | skip)
    obtain ⟨hx48_0, hf48_0⟩ := Kd.R_celln false HO382.out ((ji37) : Int) p48 q48
    replace p48 := eq_true p48
    replace q48 := eq_true q48
    obtain ⟨hy56_, hz56_⟩ := Kd.R_celln false HO382.out ((ji37) : Int) (oa_) (oa_)
    have HP56 := Kd.R_putg HO382.out ((ji37) : Int) (rdOf false x5_1 (ji40))
    try go_wp2_with (first | ((with_reducible refine gate_store (t := 4) (p := 53) rfl ?_); refine store_event (t := 4) (p := 53) (v := ?vo_w57) (w1 := (w53.setCell ⟨go48, ((ji37) : Int).toNat, none⟩ (.bool (rdOf false x5_1 (ji40))))) ?hg ?ho ?hn ?hr ?_; (case ho => rfl); (case hg => rfl); (case hn => rfl); (case hr => first | (go_simp; done) | (go_simp; rfl)); intro w57 hw; have hg : w53.grownBy w57 (some go48) := (by rw [hw]; exact HP56.2); have hp_ : Kd.R Kd.bool 4 w57 w.heap.size (fun _ => True) (.slice (some ⟨go48, 0, none⟩) y380.length co51) y383 := (by rw [hw, Ny383.out]; exact HP56.1); clear HP56; replace HO382 := mk_ (hp_); replace HB := mk_ ((by rw [hw]; exact below_set (HB.out) GB48.out : Below w.heap.size w w57)); (try clear BK368); clear hg hw hp_))
    (try subst hji40)
    (try subst hji37)
    go_roundg k1
    case measure => have := HK1.out; omega
    case rel => exact ⟨(y383), (wrap64 (x14_1 + 1)), sm_, H', ⟨by have := HK1.out; omega⟩, ⟨Kd.R_below HO382.out lt_⟩, ⟨at_ HB.out⟩⟩
   revert H; refine g_ (dt_ fun c58b0 H => ?_)
   obtain ⟨y384, hy384⟩ : ∃ y_ : List Bool, y_ = (y380.set ((ji37) : Int).toNat false) := ⟨_, rfl⟩
   first | (replace H := bn_ hy384 H; try dsimp only at H) | rw [← hy384] at H
   have Ny384 := mk_ hy384
   clear hy384
   have H' := mk_ H
   clear H
   have p367 : 0 ≤ (x14_1 : Int) := oa_
   have q367 : x14_1 < (l0.length : Int) := oa_
   obtain ⟨ad367, e367, hx367_0, hx367_1⟩ := at_T82 HR0.out x14_1 p367 q367
   cases e367
   replace hx367_0 := cel HB.out hx367_0
   replace hx367_1 := cel HB.out hx367_1
   replace p367 := eq_true p367
   replace q367 := eq_true q367
   try go_wp2_with (first | (refine gx_ 7 #[.int .i64 0, .int .i64 0] 82 ?_; intro gb368 hg w60 hbox hb; replace HO_5 := mk_ (Kd.R_below (Kd.R_below HO_5.out lt_) hb); have BK368 := mk_ (hbox); have GW368 := gm_ hg HB.out; have GE368 := gm_ hg HB.out; replace HB := mk_ (below_step (below_at HB.out) hb); clear hb hbox hg; have hcz61_0 := blk_cell BK368.out 0; have hcz61_1 := blk_cell BK368.out 1; have hfz61_0 := blk_frozen BK368.out 0; have hfz61_1 := blk_frozen BK368.out 1; obtain ⟨Ao62, co62, eo62⟩ := Kd.R_slice HO_5.out; subst eo62))
   have n0_ : Aside0 (Kd.R Kd.bool 4 ((w60.setCell ⟨gb368, 0, none⟩ (.int .i64 ((rd_T82 l0 x14_1).f0))).setCell ⟨gb368, 1, none⟩ (.int .i64 ((rd_T82 l0 x14_1).f1))) w.heap.size (fun _ => True) (.slice Ao62 x5_1.length co62) x5_1) := ⟨by (with_reducible repeat (first | apply Kd.R_alloc | apply Kd.R_drewN | apply Kd.R_drew)); exact Kd.R_mono (Kd.R_far (p := ⟨gb368, 1, none⟩) (Kd.R_far (p := ⟨gb368, 0, none⟩) (Kd.R_types HO_5.out BK368.out (by decide)) (fun _ hk => hk.2) (.int .i64 ((rd_T82 l0 x14_1).f0))) (fun _ hk => hk.2) (.int .i64 ((rd_T82 l0 x14_1).f1))) (fun _ hk => trivial)⟩
   have n1_ : Aside0 (((w60.setCell ⟨gb368, 0, none⟩ (.int .i64 ((rd_T82 l0 x14_1).f0))).setCell ⟨gb368, 1, none⟩ (.int .i64 ((rd_T82 l0 x14_1).f1))).heap[gb368]? = some (.cells #[.int .i64 ((rd_T82 l0 x14_1).f0), .int .i64 ((rd_T82 l0 x14_1).f1)] 82 (0, 0))) := ⟨by refine bs_ ?_; refine blk_put (cs := #[.int .i64 ((rd_T82 l0 x14_1).f0), .int .i64 0]) ?_ 1 _ rfl; refine bs_ ?_; refine blk_put (cs := #[.int .i64 0, .int .i64 0]) ?_ 0 _ rfl; refine bs_ ?_; exact BK368.out⟩
   have n2_ : Aside0 (Below w.heap.size w ((w60.setCell ⟨gb368, 0, none⟩ (.int .i64 ((rd_T82 l0 x14_1).f0))).setCell ⟨gb368, 1, none⟩ (.int .i64 ((rd_T82 l0 x14_1).f1)))) := ⟨at_ HB.out⟩
   (try clear HO_5)
   (try clear BK368)
   (try clear HB)
   generalize ((w60.setCell ⟨gb368, 0, none⟩ (.int .i64 ((rd_T82 l0 x14_1).f0))).setCell ⟨gb368, 1, none⟩ (.int .i64 ((rd_T82 l0 x14_1).f1))) = w63 at n0_ n1_ n2_ ⊢
   have HO_5 := n0_
   have BK368 := n1_
   have HB := n2_
   clear n0_ n1_ n2_
   replace HO_5 := mk_ (Kd.R_drew HO_5.out)
   replace BK368 := mk_ (blk_drew BK368.out)
   replace HB := mk_ (below_drew1 HB.out)
   have p378 : 0 ≤ ((ji37) : Int) := oa_
   have q378 : (ji37) < (x5_1.length : Int) := oa_
   obtain ⟨ad378, e378, hx378_0⟩ := Kd.at_bool (Kd.R_reads' HO_5.out).2.2 (ji37) p378 q378
   (try rw [← Nbq45.out] at hx378_0)
   cases e378
   replace p378 := eq_true p378
   replace q378 := eq_true q378
   have p379 : 0 ≤ ((ji40) : Int) := oa_
   have q379 : (ji40) < (x5_1.length : Int) := oa_
   obtain ⟨ad379, e379, hx379_0⟩ := Kd.at_bool (Kd.R_reads' HO_5.out).2.2 (ji40) p379 q379
   (try rw [← Nbq45.out] at hx379_0)
   obtain rfl : ad378 = ad379 := (by injection e379)
   replace p379 := eq_true p379
   replace q379 := eq_true q379
   refine start_ (n := 11) (S := fun w' => w'.cell? (ad378.add ((ji37)).toNat) = some (.bool false) ∧ w'.cell? (ad378.add ((ji40)).toNat) = some (.bool (rdOf false x5_1 (ji40)))) (ds := []) #[false, false, false, false, false, false, false, false, false, false, false] (by kernel_rfl) rfl rfl ⟨hx378_0, hx379_0⟩ (fun hHeld => ?_); refine with_tabW impl_holds.tab7 impl_holds.bits7 (fun HT_ HW_ => ?_)
   generalize w63.drew = w64 at HO_5 BK368 HB hx378_0 hx379_0 hHeld ⊢
   refine pus_ 0 (some 23) (ao_ HT_) ?_
   refine pus_ 1 (some 24) (ao_ HT_) ?_
   refine pus_ 2 (some 25) (ao_ HT_) ?_
   refine pus_ 3 (some 26) (ao_ HT_) ?_
   refine pus_ 5 (some 28) (ao_ HT_) ?_
   refine pus_ 6 (some 29) (ao_ HT_) ?_
   refine pus_ 7 (some 30) (ao_ HT_) ?_
   refine tas_ 4 (some 27) (to_ HT_ HW_) hHeld ?_
   refine pus_ 9 (some 9) (ao_ HT_) ?_
   refine tas_ 8 (some 31) (to_ HT_ HW_) hHeld ?_
   refine pus_ 10 (some 10) (ao_ HT_) ?_
   refine done_ (done_of HT_.out (by kernel_rfl)) ?_
   have q65 : ((ji40) : Int) ≤ ((x5_1.length : Int) : Int) := oa_
   obtain ⟨i065, hi065, _, hsz65, _⟩ := info_parts info4
   have hcut65 := cut_to (P := Tryd.prog) 63 4 .i64 Tryd.underlying63 hi065 (some ad378) x5_1.length co62 (ji40) (oa_) q65 (Kd.R_reads' HO_5.out).2.1
   have hr65 := Kd.R_take (m := ((ji40) : Int).toNat) HO_5.out (by omega)
   have hy65 : y380.length = ((ji40) : Int).toNat := (by rw [Ny380.out, List.length_take]; omega)
   rw [← Ny380.out] at hr65
   rw [← hy65] at hr65 hcut65
   clear hy65 hi065 hsz65 HO_5
   have HO382 := mk_ hr65
   clear hr65
   replace q65 := eq_true q65
   have hcz66_0 := blk_cell BK368.out 0
   have hcz66_1 := blk_cell BK368.out 1
   have hfz66_0 := blk_frozen BK368.out 0
   have hfz66_1 := blk_frozen BK368.out 1
   have p59 : 0 ≤ ((ji37) : Int) := oa_
   have q59 : ((ji37) : Int) < ((y380.length : Int) : Int) := oa_
   obtain ⟨go59, co59, eo59, gb59, gl59, cl59, HG59⟩ := Kd.R_form HO382.out (by omega)
   (first | cases eo59 | (injection eo59 with ea_ en_ ec_; (first | subst ea_ | (injection ea_ with ea_; subst ea_)); subst ec_; clear en_))
   have GB59 := mk_ gb59
   have GG59 := mk_ HG59
   clear gb59 gl59 HG59
   (first | simp only [add_plain] at hx378_0 | skip)
   (first | simp only [add_plain] at hx379_0 | skip)
   obtain ⟨hx59_0, hf59_0⟩ := Kd.R_celln false HO382.out ((ji37) : Int) p59 q59
   replace p59 := eq_true p59
   replace q59 := eq_true q59
   obtain ⟨hy67_, hz67_⟩ := Kd.R_celln false HO382.out ((ji37) : Int) (oa_) (oa_)
   have HP67 := Kd.R_putg HO382.out ((ji37) : Int) false
   try go_wp2_with (first | ((with_reducible refine gate_store (t := 4) (p := 53) rfl ?_); refine store_event (t := 4) (p := 53) (v := ?vo_w68) (w1 := (w64.setCell ⟨go59, ((ji37) : Int).toNat, none⟩ (.bool false))) ?hg ?ho ?hn ?hr ?_; (case ho => rfl); (case hg => rfl); (case hn => rfl); (case hr => first | (go_simp; done) | (go_simp; rfl)); intro w68 hw; have hg : w64.grownBy w68 (some go59) := (by rw [hw]; exact HP67.2); have hp_ : Kd.R Kd.bool 4 w68 w.heap.size (fun _ => True) (.slice (some ⟨go59, 0, none⟩) y380.length co62) y384 := (by rw [hw, Ny384.out]; exact HP67.1); clear HP67; replace HO382 := mk_ (hp_); replace HB := mk_ ((by rw [hw]; exact below_set (HB.out) GB59.out : Below w.heap.size w w68)); (try clear BK368); clear hg hw hp_))
   (try subst hji40)
   (try subst hji37)
   go_roundg k1
   case measure => have := HK1.out; omega
   case rel => exact ⟨(y384), (wrap64 (x14_1 + 1)), sm_, H', ⟨by have := HK1.out; omega⟩, ⟨Kd.R_below HO382.out lt_⟩, ⟨at_ HB.out⟩⟩
  revert H; refine ti_ (qfk_ fun c69 c69b0 c69b1 H => ?_) (qt_ fun c69b0 c69b1 H => ?_)
  ·revert H; refine g_ (dt_ fun c94b0 H => ?_)
   obtain ⟨y387, hy387⟩ : ∃ y_ : List Bool, y_ = (y380.set ((ji37) : Int).toNat ((rdOf false x5_1 (ji37)) == (rdOf false x5_1 (ji40)))) := ⟨_, rfl⟩
   first | (replace H := bn_ hy387 H; try dsimp only at H) | rw [← hy387] at H
   have Ny387 := mk_ hy387
   clear hy387
   have H' := mk_ H
   clear H
   have p367 : 0 ≤ (x14_1 : Int) := oa_
   have q367 : x14_1 < (l0.length : Int) := oa_
   obtain ⟨ad367, e367, hx367_0, hx367_1⟩ := at_T82 HR0.out x14_1 p367 q367
   cases e367
   replace hx367_0 := cel HB.out hx367_0
   replace hx367_1 := cel HB.out hx367_1
   replace p367 := eq_true p367
   replace q367 := eq_true q367
   try go_wp2_with (first | (refine gx_ 7 #[.int .i64 0, .int .i64 0] 82 ?_; intro gb368 hg w96 hbox hb; replace HO_5 := mk_ (Kd.R_below (Kd.R_below HO_5.out lt_) hb); have BK368 := mk_ (hbox); have GW368 := gm_ hg HB.out; have GE368 := gm_ hg HB.out; replace HB := mk_ (below_step (below_at HB.out) hb); clear hb hbox hg; have hcz97_0 := blk_cell BK368.out 0; have hcz97_1 := blk_cell BK368.out 1; have hfz97_0 := blk_frozen BK368.out 0; have hfz97_1 := blk_frozen BK368.out 1; obtain ⟨Ao98, co98, eo98⟩ := Kd.R_slice HO_5.out; subst eo98))
   have n0_ : Aside0 (Kd.R Kd.bool 4 ((w96.setCell ⟨gb368, 0, none⟩ (.int .i64 ((rd_T82 l0 x14_1).f0))).setCell ⟨gb368, 1, none⟩ (.int .i64 ((rd_T82 l0 x14_1).f1))) w.heap.size (fun _ => True) (.slice Ao98 x5_1.length co98) x5_1) := ⟨by (with_reducible repeat (first | apply Kd.R_alloc | apply Kd.R_drewN | apply Kd.R_drew)); exact Kd.R_mono (Kd.R_far (p := ⟨gb368, 1, none⟩) (Kd.R_far (p := ⟨gb368, 0, none⟩) (Kd.R_types HO_5.out BK368.out (by decide)) (fun _ hk => hk.2) (.int .i64 ((rd_T82 l0 x14_1).f0))) (fun _ hk => hk.2) (.int .i64 ((rd_T82 l0 x14_1).f1))) (fun _ hk => trivial)⟩
   have n1_ : Aside0 (((w96.setCell ⟨gb368, 0, none⟩ (.int .i64 ((rd_T82 l0 x14_1).f0))).setCell ⟨gb368, 1, none⟩ (.int .i64 ((rd_T82 l0 x14_1).f1))).heap[gb368]? = some (.cells #[.int .i64 ((rd_T82 l0 x14_1).f0), .int .i64 ((rd_T82 l0 x14_1).f1)] 82 (0, 0))) := ⟨by refine bs_ ?_; refine blk_put (cs := #[.int .i64 ((rd_T82 l0 x14_1).f0), .int .i64 0]) ?_ 1 _ rfl; refine bs_ ?_; refine blk_put (cs := #[.int .i64 0, .int .i64 0]) ?_ 0 _ rfl; refine bs_ ?_; exact BK368.out⟩
   have n2_ : Aside0 (Below w.heap.size w ((w96.setCell ⟨gb368, 0, none⟩ (.int .i64 ((rd_T82 l0 x14_1).f0))).setCell ⟨gb368, 1, none⟩ (.int .i64 ((rd_T82 l0 x14_1).f1)))) := ⟨at_ HB.out⟩
   (try clear HO_5)
   (try clear BK368)
   (try clear HB)
   generalize ((w96.setCell ⟨gb368, 0, none⟩ (.int .i64 ((rd_T82 l0 x14_1).f0))).setCell ⟨gb368, 1, none⟩ (.int .i64 ((rd_T82 l0 x14_1).f1))) = w99 at n0_ n1_ n2_ ⊢
   have HO_5 := n0_
   have BK368 := n1_
   have HB := n2_
   clear n0_ n1_ n2_
   replace HO_5 := mk_ (Kd.R_drew HO_5.out)
   replace BK368 := mk_ (blk_drew BK368.out)
   replace HB := mk_ (below_drew1 HB.out)
   have p378 : 0 ≤ ((ji37) : Int) := oa_
   have q378 : (ji37) < (x5_1.length : Int) := oa_
   obtain ⟨ad378, e378, hx378_0⟩ := Kd.at_bool (Kd.R_reads' HO_5.out).2.2 (ji37) p378 q378
   cases e378
   replace p378 := eq_true p378
   replace q378 := eq_true q378
   have p379 : 0 ≤ ((ji40) : Int) := oa_
   have q379 : (ji40) < (x5_1.length : Int) := oa_
   obtain ⟨ad379, e379, hx379_0⟩ := Kd.at_bool (Kd.R_reads' HO_5.out).2.2 (ji40) p379 q379
   obtain rfl : ad378 = ad379 := (by injection e379)
   replace p379 := eq_true p379
   replace q379 := eq_true q379
   refine start_ (n := 11) (S := fun w' => w'.cell? (ad378.add ((ji37)).toNat) = some (.bool (rdOf false x5_1 (ji37))) ∧ w'.cell? (ad378.add ((ji40)).toNat) = some (.bool (rdOf false x5_1 (ji40)))) (ds := []) #[false, false, false, false, false, false, false, false, false, false, false] (by kernel_rfl) rfl rfl ⟨hx378_0, hx379_0⟩ (fun hHeld => ?_); refine with_tabW impl_holds.tab7 impl_holds.bits7 (fun HT_ HW_ => ?_)
   generalize w99.drew = w100 at HO_5 BK368 HB hx378_0 hx379_0 hHeld ⊢
   refine pus_ 0 (some 23) (ao_ HT_) ?_
   refine pus_ 1 (some 24) (ao_ HT_) ?_
   refine pus_ 2 (some 25) (ao_ HT_) ?_
   refine pus_ 3 (some 26) (ao_ HT_) ?_
   refine pus_ 5 (some 28) (ao_ HT_) ?_
   refine pus_ 6 (some 29) (ao_ HT_) ?_
   refine pus_ 7 (some 30) (ao_ HT_) ?_
   refine tas_ 4 (some 27) (to_ HT_ HW_) hHeld ?_
   refine pus_ 9 (some 9) (ao_ HT_) ?_
   refine tas_ 8 (some 31) (to_ HT_ HW_) hHeld ?_
   refine pus_ 10 (some 10) (ao_ HT_) ?_
   refine done_ (done_of HT_.out (by kernel_rfl)) ?_
   have q101 : ((ji40) : Int) ≤ ((x5_1.length : Int) : Int) := oa_
   obtain ⟨i0101, hi0101, _, hsz101, _⟩ := info_parts info4
   have hcut101 := cut_to (P := Tryd.prog) 63 4 .i64 Tryd.underlying63 hi0101 (some ad378) x5_1.length co98 (ji40) (oa_) q101 (Kd.R_reads' HO_5.out).2.1
   have hr101 := Kd.R_take (m := ((ji40) : Int).toNat) HO_5.out (by omega)
   have hy101 : y380.length = ((ji40) : Int).toNat := (by rw [Ny380.out, List.length_take]; omega)
   rw [← Ny380.out] at hr101
   rw [← hy101] at hr101 hcut101
   clear hy101 hi0101 hsz101 HO_5
   have HO382 := mk_ hr101
   clear hr101
   replace q101 := eq_true q101
   have hcz102_0 := blk_cell BK368.out 0
   have hcz102_1 := blk_cell BK368.out 1
   have hfz102_0 := blk_frozen BK368.out 0
   have hfz102_1 := blk_frozen BK368.out 1
   have p95 : 0 ≤ ((ji37) : Int) := oa_
   have q95 : ((ji37) : Int) < ((y380.length : Int) : Int) := oa_
   obtain ⟨go95, co95, eo95, gb95, gl95, cl95, HG95⟩ := Kd.R_form HO382.out (by omega)
   (first | cases eo95 | (injection eo95 with ea_ en_ ec_; (first | subst ea_ | (injection ea_ with ea_; subst ea_)); subst ec_; clear en_))
   have GB95 := mk_ gb95
   have GG95 := mk_ HG95
   clear gb95 gl95 HG95
   (first | simp only [add_plain] at hx378_0 | skip)
   (first | simp only [add_plain] at hx379_0 | skip)
   obtain ⟨hx95_0, hf95_0⟩ := Kd.R_celln false HO382.out ((ji37) : Int) p95 q95
   replace p95 := eq_true p95
   replace q95 := eq_true q95
   obtain ⟨hy103_, hz103_⟩ := Kd.R_celln false HO382.out ((ji37) : Int) (oa_) (oa_)
   have HP103 := Kd.R_putg HO382.out ((ji37) : Int) ((rdOf false x5_1 (ji37)) == (rdOf false x5_1 (ji40)))
   try go_wp2_with (first | ((with_reducible refine gate_store (t := 4) (p := 43) rfl ?_); refine store_event (t := 4) (p := 43) (v := ?vo_w104) (w1 := (w100.setCell ⟨go95, ((ji37) : Int).toNat, none⟩ (.bool ((rdOf false x5_1 (ji37)) == (rdOf false x5_1 (ji40)))))) ?hg ?ho ?hn ?hr ?_; (case ho => rfl); (case hg => rfl); (case hn => rfl); (case hr => first | (go_simp; done) | (go_simp; rfl)); intro w104 hw; have hg : w100.grownBy w104 (some go95) := (by rw [hw]; exact HP103.2); have hp_ : Kd.R Kd.bool 4 w104 w.heap.size (fun _ => True) (.slice (some ⟨go95, 0, none⟩) y380.length co98) y387 := (by rw [hw, Ny387.out]; exact HP103.1); clear HP103; replace HO382 := mk_ (hp_); replace HB := mk_ ((by rw [hw]; exact below_set (HB.out) GB95.out : Below w.heap.size w w104)); (try clear BK368); clear hg hw hp_))
   (try subst hji40)
   (try subst hji37)
   go_roundg k1
   case measure => have := HK1.out; omega
   case rel => exact ⟨(y387), (wrap64 (x14_1 + 1)), sm_, H', ⟨by have := HK1.out; omega⟩, ⟨Kd.R_below HO382.out lt_⟩, ⟨at_ HB.out⟩⟩
  obtain ⟨bq70, hbq70⟩ : ∃ b_ : Bool, b_ = (rdOf false x5_1 (ji37)) := ⟨_, rfl⟩
  replace H : (if bq70 = true then (if (ji37) < (y380.length : Int) then (impl_holds.l0 k1 a1 (y380.set ((ji37) : Int).toNat true) l0 (l0.length : Int) (wrap64 (x14_1 + 1))) else (none)) else (if (ji37) < (y380.length : Int) then (impl_holds.l0 k1 a1 (y380.set ((ji37) : Int).toNat (rdOf false x5_1 (ji40))) l0 (l0.length : Int) (wrap64 (x14_1 + 1))) else (none))) = some r := by rw [← hbq70] at H; exact H
  have Nbq70 := mk_ hbq70
  clear hbq70
  revert H; refine ib_ ?_ ?_ <;> rintro rfl H
  ·revert H; refine g_ (dt_ fun c72b0 H => ?_)
   obtain ⟨y385, hy385⟩ : ∃ y_ : List Bool, y_ = (y380.set ((ji37) : Int).toNat true) := ⟨_, rfl⟩
   first | (replace H := bn_ hy385 H; try dsimp only at H) | rw [← hy385] at H
   have Ny385 := mk_ hy385
   clear hy385
   have H' := mk_ H
   clear H
   have p367 : 0 ≤ (x14_1 : Int) := oa_
   have q367 : x14_1 < (l0.length : Int) := oa_
   obtain ⟨ad367, e367, hx367_0, hx367_1⟩ := at_T82 HR0.out x14_1 p367 q367
   cases e367
   replace hx367_0 := cel HB.out hx367_0
   replace hx367_1 := cel HB.out hx367_1
   replace p367 := eq_true p367
   replace q367 := eq_true q367
   try go_wp2_with (first | (refine gx_ 7 #[.int .i64 0, .int .i64 0] 82 ?_; intro gb368 hg w74 hbox hb; replace HO_5 := mk_ (Kd.R_below (Kd.R_below HO_5.out lt_) hb); have BK368 := mk_ (hbox); have GW368 := gm_ hg HB.out; have GE368 := gm_ hg HB.out; replace HB := mk_ (below_step (below_at HB.out) hb); clear hb hbox hg; have hcz75_0 := blk_cell BK368.out 0; have hcz75_1 := blk_cell BK368.out 1; have hfz75_0 := blk_frozen BK368.out 0; have hfz75_1 := blk_frozen BK368.out 1; obtain ⟨Ao76, co76, eo76⟩ := Kd.R_slice HO_5.out; subst eo76))
   have n0_ : Aside0 (Kd.R Kd.bool 4 ((w74.setCell ⟨gb368, 0, none⟩ (.int .i64 ((rd_T82 l0 x14_1).f0))).setCell ⟨gb368, 1, none⟩ (.int .i64 ((rd_T82 l0 x14_1).f1))) w.heap.size (fun _ => True) (.slice Ao76 x5_1.length co76) x5_1) := ⟨by (with_reducible repeat (first | apply Kd.R_alloc | apply Kd.R_drewN | apply Kd.R_drew)); exact Kd.R_mono (Kd.R_far (p := ⟨gb368, 1, none⟩) (Kd.R_far (p := ⟨gb368, 0, none⟩) (Kd.R_types HO_5.out BK368.out (by decide)) (fun _ hk => hk.2) (.int .i64 ((rd_T82 l0 x14_1).f0))) (fun _ hk => hk.2) (.int .i64 ((rd_T82 l0 x14_1).f1))) (fun _ hk => trivial)⟩
   have n1_ : Aside0 (((w74.setCell ⟨gb368, 0, none⟩ (.int .i64 ((rd_T82 l0 x14_1).f0))).setCell ⟨gb368, 1, none⟩ (.int .i64 ((rd_T82 l0 x14_1).f1))).heap[gb368]? = some (.cells #[.int .i64 ((rd_T82 l0 x14_1).f0), .int .i64 ((rd_T82 l0 x14_1).f1)] 82 (0, 0))) := ⟨by refine bs_ ?_; refine blk_put (cs := #[.int .i64 ((rd_T82 l0 x14_1).f0), .int .i64 0]) ?_ 1 _ rfl; refine bs_ ?_; refine blk_put (cs := #[.int .i64 0, .int .i64 0]) ?_ 0 _ rfl; refine bs_ ?_; exact BK368.out⟩
   have n2_ : Aside0 (Below w.heap.size w ((w74.setCell ⟨gb368, 0, none⟩ (.int .i64 ((rd_T82 l0 x14_1).f0))).setCell ⟨gb368, 1, none⟩ (.int .i64 ((rd_T82 l0 x14_1).f1)))) := ⟨at_ HB.out⟩
   (try clear HO_5)
   (try clear BK368)
   (try clear HB)
   generalize ((w74.setCell ⟨gb368, 0, none⟩ (.int .i64 ((rd_T82 l0 x14_1).f0))).setCell ⟨gb368, 1, none⟩ (.int .i64 ((rd_T82 l0 x14_1).f1))) = w77 at n0_ n1_ n2_ ⊢
   have HO_5 := n0_
   have BK368 := n1_
   have HB := n2_
   clear n0_ n1_ n2_
   replace HO_5 := mk_ (Kd.R_drew HO_5.out)
   replace BK368 := mk_ (blk_drew BK368.out)
   replace HB := mk_ (below_drew1 HB.out)
   have p378 : 0 ≤ ((ji37) : Int) := oa_
   have q378 : (ji37) < (x5_1.length : Int) := oa_
   obtain ⟨ad378, e378, hx378_0⟩ := Kd.at_bool (Kd.R_reads' HO_5.out).2.2 (ji37) p378 q378
   (try rw [← Nbq70.out] at hx378_0)
   cases e378
   replace p378 := eq_true p378
   replace q378 := eq_true q378
   have p379 : 0 ≤ ((ji40) : Int) := oa_
   have q379 : (ji40) < (x5_1.length : Int) := oa_
   obtain ⟨ad379, e379, hx379_0⟩ := Kd.at_bool (Kd.R_reads' HO_5.out).2.2 (ji40) p379 q379
   (try rw [← Nbq70.out] at hx379_0)
   obtain rfl : ad378 = ad379 := (by injection e379)
   replace p379 := eq_true p379
   replace q379 := eq_true q379
   refine start_ (n := 11) (S := fun w' => w'.cell? (ad378.add ((ji37)).toNat) = some (.bool true) ∧ w'.cell? (ad378.add ((ji40)).toNat) = some (.bool (rdOf false x5_1 (ji40)))) (ds := []) #[false, false, false, false, false, false, false, false, false, false, false] (by kernel_rfl) rfl rfl ⟨hx378_0, hx379_0⟩ (fun hHeld => ?_); refine with_tabW impl_holds.tab7 impl_holds.bits7 (fun HT_ HW_ => ?_)
   generalize w77.drew = w78 at HO_5 BK368 HB hx378_0 hx379_0 hHeld ⊢
   refine pus_ 0 (some 23) (ao_ HT_) ?_
   refine pus_ 1 (some 24) (ao_ HT_) ?_
   refine pus_ 2 (some 25) (ao_ HT_) ?_
   refine pus_ 3 (some 26) (ao_ HT_) ?_
   refine pus_ 5 (some 28) (ao_ HT_) ?_
   refine pus_ 6 (some 29) (ao_ HT_) ?_
   refine pus_ 7 (some 30) (ao_ HT_) ?_
   refine tas_ 4 (some 27) (to_ HT_ HW_) hHeld ?_
   refine pus_ 9 (some 9) (ao_ HT_) ?_
   refine tas_ 8 (some 31) (to_ HT_ HW_) hHeld ?_
   refine pus_ 10 (some 10) (ao_ HT_) ?_
   refine done_ (done_of HT_.out (by kernel_rfl)) ?_
   have q79 : ((ji40) : Int) ≤ ((x5_1.length : Int) : Int) := oa_
   obtain ⟨i079, hi079, _, hsz79, _⟩ := info_parts info4
   have hcut79 := cut_to (P := Tryd.prog) 63 4 .i64 Tryd.underlying63 hi079 (some ad378) x5_1.length co76 (ji40) (oa_) q79 (Kd.R_reads' HO_5.out).2.1
   have hr79 := Kd.R_take (m := ((ji40) : Int).toNat) HO_5.out (by omega)
   have hy79 : y380.length = ((ji40) : Int).toNat := (by rw [Ny380.out, List.length_take]; omega)
   rw [← Ny380.out] at hr79
   rw [← hy79] at hr79 hcut79
   clear hy79 hi079 hsz79 HO_5
   have HO382 := mk_ hr79
   clear hr79
   replace q79 := eq_true q79
   have hcz80_0 := blk_cell BK368.out 0
   have hcz80_1 := blk_cell BK368.out 1
   have hfz80_0 := blk_frozen BK368.out 0
   have hfz80_1 := blk_frozen BK368.out 1
   have p73 : 0 ≤ ((ji37) : Int) := oa_
   have q73 : ((ji37) : Int) < ((y380.length : Int) : Int) := oa_
   obtain ⟨go73, co73, eo73, gb73, gl73, cl73, HG73⟩ := Kd.R_form HO382.out (by omega)
   (first | cases eo73 | (injection eo73 with ea_ en_ ec_; (first | subst ea_ | (injection ea_ with ea_; subst ea_)); subst ec_; clear en_))
   have GB73 := mk_ gb73
   have GG73 := mk_ HG73
   clear gb73 gl73 HG73
   (first | simp only [add_plain] at hx378_0 | skip)
   (first | simp only [add_plain] at hx379_0 | skip)
   obtain ⟨hx73_0, hf73_0⟩ := Kd.R_celln false HO382.out ((ji37) : Int) p73 q73
   replace p73 := eq_true p73
   replace q73 := eq_true q73
   obtain ⟨hy81_, hz81_⟩ := Kd.R_celln false HO382.out ((ji37) : Int) (oa_) (oa_)
   have HP81 := Kd.R_putg HO382.out ((ji37) : Int) true
   try go_wp2_with (first | ((with_reducible refine gate_store (t := 4) (p := 63) rfl ?_); refine store_event (t := 4) (p := 63) (v := ?vo_w82) (w1 := (w78.setCell ⟨go73, ((ji37) : Int).toNat, none⟩ (.bool true))) ?hg ?ho ?hn ?hr ?_; (case ho => rfl); (case hg => rfl); (case hn => rfl); (case hr => first | (go_simp; done) | (go_simp; rfl)); intro w82 hw; have hg : w78.grownBy w82 (some go73) := (by rw [hw]; exact HP81.2); have hp_ : Kd.R Kd.bool 4 w82 w.heap.size (fun _ => True) (.slice (some ⟨go73, 0, none⟩) y380.length co76) y385 := (by rw [hw, Ny385.out]; exact HP81.1); clear HP81; replace HO382 := mk_ (hp_); replace HB := mk_ ((by rw [hw]; exact below_set (HB.out) GB73.out : Below w.heap.size w w82)); (try clear BK368); clear hg hw hp_))
   (try subst hji40)
   (try subst hji37)
   go_roundg k1
   case measure => have := HK1.out; omega
   case rel => exact ⟨(y385), (wrap64 (x14_1 + 1)), sm_, H', ⟨by have := HK1.out; omega⟩, ⟨Kd.R_below HO382.out lt_⟩, ⟨at_ HB.out⟩⟩
  revert H; refine g_ (dt_ fun c83b0 H => ?_)
  obtain ⟨y386, hy386⟩ : ∃ y_ : List Bool, y_ = (y380.set ((ji37) : Int).toNat (rdOf false x5_1 (ji40))) := ⟨_, rfl⟩
  first | (replace H := bn_ hy386 H; try dsimp only at H) | rw [← hy386] at H
  have Ny386 := mk_ hy386
  clear hy386
  have H' := mk_ H
  clear H
  have p367 : 0 ≤ (x14_1 : Int) := oa_
  have q367 : x14_1 < (l0.length : Int) := oa_
  obtain ⟨ad367, e367, hx367_0, hx367_1⟩ := at_T82 HR0.out x14_1 p367 q367
  cases e367
  replace hx367_0 := cel HB.out hx367_0
  replace hx367_1 := cel HB.out hx367_1
  replace p367 := eq_true p367
  replace q367 := eq_true q367
  try go_wp2_with (first | (refine gx_ 7 #[.int .i64 0, .int .i64 0] 82 ?_; intro gb368 hg w85 hbox hb; replace HO_5 := mk_ (Kd.R_below (Kd.R_below HO_5.out lt_) hb); have BK368 := mk_ (hbox); have GW368 := gm_ hg HB.out; have GE368 := gm_ hg HB.out; replace HB := mk_ (below_step (below_at HB.out) hb); clear hb hbox hg; have hcz86_0 := blk_cell BK368.out 0; have hcz86_1 := blk_cell BK368.out 1; have hfz86_0 := blk_frozen BK368.out 0; have hfz86_1 := blk_frozen BK368.out 1; obtain ⟨Ao87, co87, eo87⟩ := Kd.R_slice HO_5.out; subst eo87))
  have n0_ : Aside0 (Kd.R Kd.bool 4 ((w85.setCell ⟨gb368, 0, none⟩ (.int .i64 ((rd_T82 l0 x14_1).f0))).setCell ⟨gb368, 1, none⟩ (.int .i64 ((rd_T82 l0 x14_1).f1))) w.heap.size (fun _ => True) (.slice Ao87 x5_1.length co87) x5_1) := ⟨by (with_reducible repeat (first | apply Kd.R_alloc | apply Kd.R_drewN | apply Kd.R_drew)); exact Kd.R_mono (Kd.R_far (p := ⟨gb368, 1, none⟩) (Kd.R_far (p := ⟨gb368, 0, none⟩) (Kd.R_types HO_5.out BK368.out (by decide)) (fun _ hk => hk.2) (.int .i64 ((rd_T82 l0 x14_1).f0))) (fun _ hk => hk.2) (.int .i64 ((rd_T82 l0 x14_1).f1))) (fun _ hk => trivial)⟩
  have n1_ : Aside0 (((w85.setCell ⟨gb368, 0, none⟩ (.int .i64 ((rd_T82 l0 x14_1).f0))).setCell ⟨gb368, 1, none⟩ (.int .i64 ((rd_T82 l0 x14_1).f1))).heap[gb368]? = some (.cells #[.int .i64 ((rd_T82 l0 x14_1).f0), .int .i64 ((rd_T82 l0 x14_1).f1)] 82 (0, 0))) := ⟨by refine bs_ ?_; refine blk_put (cs := #[.int .i64 ((rd_T82 l0 x14_1).f0), .int .i64 0]) ?_ 1 _ rfl; refine bs_ ?_; refine blk_put (cs := #[.int .i64 0, .int .i64 0]) ?_ 0 _ rfl; refine bs_ ?_; exact BK368.out⟩
  have n2_ : Aside0 (Below w.heap.size w ((w85.setCell ⟨gb368, 0, none⟩ (.int .i64 ((rd_T82 l0 x14_1).f0))).setCell ⟨gb368, 1, none⟩ (.int .i64 ((rd_T82 l0 x14_1).f1)))) := ⟨at_ HB.out⟩
  (try clear HO_5)
  (try clear BK368)
  (try clear HB)
  generalize ((w85.setCell ⟨gb368, 0, none⟩ (.int .i64 ((rd_T82 l0 x14_1).f0))).setCell ⟨gb368, 1, none⟩ (.int .i64 ((rd_T82 l0 x14_1).f1))) = w88 at n0_ n1_ n2_ ⊢
  have HO_5 := n0_
  have BK368 := n1_
  have HB := n2_
  clear n0_ n1_ n2_
  replace HO_5 := mk_ (Kd.R_drew HO_5.out)
  replace BK368 := mk_ (blk_drew BK368.out)
  replace HB := mk_ (below_drew1 HB.out)
  have p378 : 0 ≤ ((ji37) : Int) := oa_
  have q378 : (ji37) < (x5_1.length : Int) := oa_
  obtain ⟨ad378, e378, hx378_0⟩ := Kd.at_bool (Kd.R_reads' HO_5.out).2.2 (ji37) p378 q378
  (try rw [← Nbq70.out] at hx378_0)
  cases e378
  replace p378 := eq_true p378
  replace q378 := eq_true q378
  have p379 : 0 ≤ ((ji40) : Int) := oa_
  have q379 : (ji40) < (x5_1.length : Int) := oa_
  obtain ⟨ad379, e379, hx379_0⟩ := Kd.at_bool (Kd.R_reads' HO_5.out).2.2 (ji40) p379 q379
  (try rw [← Nbq70.out] at hx379_0)
  obtain rfl : ad378 = ad379 := (by injection e379)
  replace p379 := eq_true p379
  replace q379 := eq_true q379
  refine start_ (n := 11) (S := fun w' => w'.cell? (ad378.add ((ji37)).toNat) = some (.bool false) ∧ w'.cell? (ad378.add ((ji40)).toNat) = some (.bool (rdOf false x5_1 (ji40)))) (ds := []) #[false, false, false, false, false, false, false, false, false, false, false] (by kernel_rfl) rfl rfl ⟨hx378_0, hx379_0⟩ (fun hHeld => ?_); refine with_tabW impl_holds.tab7 impl_holds.bits7 (fun HT_ HW_ => ?_)
  generalize w88.drew = w89 at HO_5 BK368 HB hx378_0 hx379_0 hHeld ⊢
  refine pus_ 0 (some 23) (ao_ HT_) ?_
  refine pus_ 1 (some 24) (ao_ HT_) ?_
  refine pus_ 2 (some 25) (ao_ HT_) ?_
  refine pus_ 3 (some 26) (ao_ HT_) ?_
  refine pus_ 5 (some 28) (ao_ HT_) ?_
  refine pus_ 6 (some 29) (ao_ HT_) ?_
  refine pus_ 7 (some 30) (ao_ HT_) ?_
  refine tas_ 4 (some 27) (to_ HT_ HW_) hHeld ?_
  refine pus_ 9 (some 9) (ao_ HT_) ?_
  refine tas_ 8 (some 31) (to_ HT_ HW_) hHeld ?_
  refine pus_ 10 (some 10) (ao_ HT_) ?_
  refine done_ (done_of HT_.out (by kernel_rfl)) ?_
  have q90 : ((ji40) : Int) ≤ ((x5_1.length : Int) : Int) := oa_
  obtain ⟨i090, hi090, _, hsz90, _⟩ := info_parts info4
  have hcut90 := cut_to (P := Tryd.prog) 63 4 .i64 Tryd.underlying63 hi090 (some ad378) x5_1.length co87 (ji40) (oa_) q90 (Kd.R_reads' HO_5.out).2.1
  have hr90 := Kd.R_take (m := ((ji40) : Int).toNat) HO_5.out (by omega)
  have hy90 : y380.length = ((ji40) : Int).toNat := (by rw [Ny380.out, List.length_take]; omega)
  rw [← Ny380.out] at hr90
  rw [← hy90] at hr90 hcut90
  clear hy90 hi090 hsz90 HO_5
  have HO382 := mk_ hr90
  clear hr90
  replace q90 := eq_true q90
  have hcz91_0 := blk_cell BK368.out 0
  have hcz91_1 := blk_cell BK368.out 1
  have hfz91_0 := blk_frozen BK368.out 0
  have hfz91_1 := blk_frozen BK368.out 1
  have p84 : 0 ≤ ((ji37) : Int) := oa_
  have q84 : ((ji37) : Int) < ((y380.length : Int) : Int) := oa_
  obtain ⟨go84, co84, eo84, gb84, gl84, cl84, HG84⟩ := Kd.R_form HO382.out (by omega)
  (first | cases eo84 | (injection eo84 with ea_ en_ ec_; (first | subst ea_ | (injection ea_ with ea_; subst ea_)); subst ec_; clear en_))
  have GB84 := mk_ gb84
  have GG84 := mk_ HG84
  clear gb84 gl84 HG84
  (first | simp only [add_plain] at hx378_0 | skip)
  (first | simp only [add_plain] at hx379_0 | skip)
  obtain ⟨hx84_0, hf84_0⟩ := Kd.R_celln false HO382.out ((ji37) : Int) p84 q84
  replace p84 := eq_true p84
  replace q84 := eq_true q84
  obtain ⟨hy92_, hz92_⟩ := Kd.R_celln false HO382.out ((ji37) : Int) (oa_) (oa_)
  have HP92 := Kd.R_putg HO382.out ((ji37) : Int) (rdOf false x5_1 (ji40))
  try go_wp2_with (first | ((with_reducible refine gate_store (t := 4) (p := 63) rfl ?_); refine store_event (t := 4) (p := 63) (v := ?vo_w93) (w1 := (w89.setCell ⟨go84, ((ji37) : Int).toNat, none⟩ (.bool (rdOf false x5_1 (ji40))))) ?hg ?ho ?hn ?hr ?_; (case ho => rfl); (case hg => rfl); (case hn => rfl); (case hr => first | (go_simp; done) | (go_simp; rfl)); intro w93 hw; have hg : w89.grownBy w93 (some go84) := (by rw [hw]; exact HP92.2); have hp_ : Kd.R Kd.bool 4 w93 w.heap.size (fun _ => True) (.slice (some ⟨go84, 0, none⟩) y380.length co87) y386 := (by rw [hw, Ny386.out]; exact HP92.1); clear HP92; replace HO382 := mk_ (hp_); replace HB := mk_ ((by rw [hw]; exact below_set (HB.out) GB84.out : Below w.heap.size w w93)); (try clear BK368); clear hg hw hp_))
  (try subst hji40)
  (try subst hji37)
  go_roundg k1
  case measure => have := HK1.out; omega
  case rel => exact ⟨(y386), (wrap64 (x14_1 + 1)), sm_, H', ⟨by have := HK1.out; omega⟩, ⟨Kd.R_below HO382.out lt_⟩, ⟨at_ HB.out⟩⟩
end Go.Proofs.YtcaogllnbpmcgaaDoor.P

/- Go's functions come to just the answers of the Lean functions told here. -/
import Derived.Test.YtcaogllnbpmcgaaPx10
namespace Go.Proofs.Ytcaogllnbpmcgaa.P
open Go.RowKit Go.Proofs.YtcaogllnbpmcgaaW.PrintWords Go.Proofs.YtcaogllnbpmcgaaW.PrintLast Go.Proofs.YtcaogllnbpmcgaaW.PrintMore
attribute [local go_sem] max2_int min2_int max_two min_two max_three min_three max_four min_four
set_option linter.unusedVariables false
set_option linter.unusedSimpArgs false
def impl_holds.l0 : Nat → Int → List Bool → List (S47) → Int → Int → Option (Bool)
 | 0, _, _, _, _, _ => none
 | k + 1, x1, x5, x12, x13, x14 => if x14 < x13 then (if 0 ≤ x14 then (if x14 < (x12.length : Int) then (if ((rd_T47 x12 x14).f0) = 0 then (if 0 ≤ ((rd_T47 x12 x14).f1) then (if x5.length < 140737488355328 then (impl_holds.l0 k x1 (x5 ++ [((Go.bits .and .i64 (shr .i64 x1 ((rd_T47 x12 x14).f1)) 1) == 1)]) x12 x13 (wrap64 (x14 + 1))) else (none)) else (none)) else (if ((rd_T47 x12 x14).f0) = 1 then ((bits_OnesCount.f (IntKind.u64.wrap (x1))).bind fun t214 => (if x5.length < 140737488355328 then (impl_holds.l0 k x1 (x5 ++ [decide (t214 ≥ ((rd_T47 x12 x14).f1))]) x12 x13 (wrap64 (x14 + 1))) else (none))) else (if ((rd_T47 x12 x14).f0) = 2 then (if 0 ≤ (wrap64 ((x5.length : Int) - 1)) then (if (wrap64 ((x5.length : Int) - 1)) < (x5.length : Int) then (impl_holds.l0 k x1 (x5.set ((wrap64 ((x5.length : Int) - 1)) : Int).toNat (!(rdOf false x5 (wrap64 ((x5.length : Int) - 1))))) x12 x13 (wrap64 (x14 + 1))) else (none)) else (none)) else (if 0 ≤ (wrap64 ((wrap64 ((x5.length : Int) - 1)) - 1)) then (if (wrap64 ((wrap64 ((x5.length : Int) - 1)) - 1)) < (x5.length : Int) then (if 0 ≤ (wrap64 ((x5.length : Int) - 1)) then (if (wrap64 ((x5.length : Int) - 1)) < (x5.length : Int) then (if (wrap64 ((x5.length : Int) - 1)) ≤ (x5.length : Int) then ((some (x5.take ((wrap64 ((x5.length : Int) - 1)) : Int).toNat : List Bool)).bind fun y222 => (if ((rd_T47 x12 x14).f0) = 3 then (if rdOf false x5 (wrap64 ((wrap64 ((x5.length : Int) - 1)) - 1)) = true then (if (wrap64 ((wrap64 ((x5.length : Int) - 1)) - 1)) < (y222.length : Int) then (impl_holds.l0 k x1 (y222.set ((wrap64 ((wrap64 ((x5.length : Int) - 1)) - 1)) : Int).toNat (rdOf false x5 (wrap64 ((x5.length : Int) - 1)))) x12 x13 (wrap64 (x14 + 1))) else (none)) else (if (wrap64 ((wrap64 ((x5.length : Int) - 1)) - 1)) < (y222.length : Int) then (impl_holds.l0 k x1 (y222.set ((wrap64 ((wrap64 ((x5.length : Int) - 1)) - 1)) : Int).toNat false) x12 x13 (wrap64 (x14 + 1))) else (none))) else (if ((rd_T47 x12 x14).f0) = 4 then (if rdOf false x5 (wrap64 ((wrap64 ((x5.length : Int) - 1)) - 1)) = true then (if (wrap64 ((wrap64 ((x5.length : Int) - 1)) - 1)) < (y222.length : Int) then (impl_holds.l0 k x1 (y222.set ((wrap64 ((wrap64 ((x5.length : Int) - 1)) - 1)) : Int).toNat true) x12 x13 (wrap64 (x14 + 1))) else (none)) else (if (wrap64 ((wrap64 ((x5.length : Int) - 1)) - 1)) < (y222.length : Int) then (impl_holds.l0 k x1 (y222.set ((wrap64 ((wrap64 ((x5.length : Int) - 1)) - 1)) : Int).toNat (rdOf false x5 (wrap64 ((x5.length : Int) - 1)))) x12 x13 (wrap64 (x14 + 1))) else (none))) else (if (wrap64 ((wrap64 ((x5.length : Int) - 1)) - 1)) < (y222.length : Int) then (impl_holds.l0 k x1 (y222.set ((wrap64 ((wrap64 ((x5.length : Int) - 1)) - 1)) : Int).toNat ((rdOf false x5 (wrap64 ((wrap64 ((x5.length : Int) - 1)) - 1))) == (rdOf false x5 (wrap64 ((x5.length : Int) - 1))))) x12 x13 (wrap64 (x14 + 1))) else (none))))) else (none)) else (none)) else (none)) else (none)) else (none))))) else (none)) else (none)) else (if 0 < (x5.length : Int) then (some (rdOf false x5 0)) else (none))
def impl_holds.f (k : Nat) (l0 : List (S47)) (a1 : Int) : Option (Bool) := impl_holds.l0 k a1 (([] : List Bool)) l0 (l0.length : Int) 0
def impl_holds.T7 : Bool × List (List Nat × List Nat) := (true, [([], []), ([], []), ([1], [1]), ([0, 2], [0, 2]), ([3], [3]), ([], []), ([], []), ([5, 6], [5, 6]), ([7], [7]), ([4, 0, 1, 2, 3, 4], [4]), ([8, 9, 0, 1, 2, 3, 4, 5, 6, 7, 8, 9], [8])])
def impl_holds.B7 : List Nat := [0, 0, 2, 7, 15, 0, 0, 96, 224, 31, 1023]
theorem impl_holds.tab7 : rtab .any (opsOf Try.f100 7) = impl_holds.T7 := by kernel_rfl
theorem impl_holds.bits7 : waitsOk impl_holds.T7.2 impl_holds.B7 = true := by kernel_rfl
def impl_holds.T18 : Bool × List (List Nat × List Nat) := (true, [([], []), ([], []), ([1], [1]), ([2], [2]), ([], []), ([4], [4]), ([3, 5], [3, 5]), ([6], [6]), ([0, 7, 3], [0, 7]), ([8, 8, 0, 1, 2, 3, 4, 5, 6, 7, 8], [0, 8])])
def impl_holds.B18 : List Nat := [0, 0, 2, 6, 0, 16, 62, 126, 255, 511]
theorem impl_holds.tab18 : rtab .any (opsOf Try.f100 18) = impl_holds.T18 := by kernel_rfl
theorem impl_holds.bits18 : waitsOk impl_holds.T18.2 impl_holds.B18 = true := by kernel_rfl
set_option maxHeartbeats 8000000 in
set_option maxRecDepth 100000 in
theorem impl_holds.calls (k : Nat) (A0 : Option Addr) (c0 : Nat) (l0 : List (S47)) (a1 : Int) (r : Bool) (w : World) (hr0 : Kd.C k47 w A0 l0.length l0) (hc0 : l0.length ≤ c0) (h : impl_holds.f k l0 a1 = some r) :
  Calls Try.prog 100 #[.slice A0 l0.length c0, .int .i64 a1] w fun e w' => e = .returned (.bool r) ∧ Below w.heap.size w w' := by
 have hu47 := Try.underlying47
 have HR0 := mk_ hr0
 have HC0 := mk_ hc0
 clear hr0 hc0
 have HB := mk_ (Below.refl w.heap.size w)
 have H : (impl_holds.l0 k a1 (([] : List Bool)) l0 (l0.length : Int) 0) = some r := h
 clear h
 obtain ⟨y205, hy205⟩ : ∃ y_ : List Bool, y_ = (([] : List Bool)) := ⟨_, rfl⟩
 replace H : (impl_holds.l0 k a1 y205 l0 (l0.length : Int) 0) = some r := by first | (rw [hy205]; exact H) | exact H
 have Ny205 := mk_ hy205
 clear hy205
 have H' := mk_ H
 clear H
 go_enter Try.func100, Try.ntmps100
 go_wp2_with (first | ((with_reducible refine gate_dst (N := 11) rfl ?_); refine Kd.R_lit Kd.bool _ 4 ?hg (N := 11) ?hd (xs := ([] : List Bool)) (inner := []) (ok := fun _ => True) (okp := fun _ => True) ?hr ?hp (fun _ hk => hk) trivial (Below.refl _ _) (Nat.le_refl _) (by simp) ?_; (case hd => rfl); (case hg => rfl); (case hr => first | (go_simp; done) | (go_simp; rfl)); (case hp => exact (Reps.none _ _)); intro v206 w3 ho4 hb hg_ hnew_; clear hg_ hnew_; (first | rw [← Ny205.out] at ho4 | (simp only [Int.reduceToNat] at ho4; rw [← Ny205.out] at ho4)); have HO207 := mk_ (Kd.R_lower ho4 (below_size (below_at HB.out))); replace HB := mk_ (below_step (below_at HB.out) hb); clear hb ho4))
 go_loopg [5, 14] k (fun kq v5 v14 w' => ∃ (x5_1 : List Bool) (x14_1 : Int), v14 = .int .i64 x14_1 ∧ Aside0 (impl_holds.l0 kq a1 x5_1 l0 (l0.length : Int) x14_1 = some r) ∧ Aside0 (kq ≤ k) ∧ Aside0 (Kd.R Kd.bool 4 w' w.heap.size (fun _ => True) v5 x5_1) ∧ Aside0 (Below w.heap.size w w'))
 case atStart => exact ⟨(y205), (0), sm_, H', ⟨Nat.le_refl _⟩, ⟨Kd.R_below HO207.out lt_⟩, ⟨below_at HB.out⟩⟩
 clear H'
 try clear c1
 try clear p2
 obtain ⟨x5_1, x14_1, rfl, HA, HK1, HO_5, HB⟩ := hrel
 cases gk with
 | zero => exact absurd HA.out (by simp [impl_holds.l0])
 | succ k1 =>
  have H := HA.out
  clear HA
  simp only [impl_holds.l0] at H
  by_cases c5 : x14_1 < (l0.length : Int)
  rotate_left
  ·rw [if_neg c5] at H
   have c5b0 : decide (x14_1 < (l0.length : Int)) = false := decide_eq_false c5
   clear c5
   by_cases c105 : 0 < (x5_1.length : Int)
   rotate_left
   ·rw [if_neg c105] at H
    exact absurd H (by simp)
   rw [if_pos c105] at H
   have c105b0 : decide (0 < (x5_1.length : Int)) = true := decide_eq_true c105
   have c105b1 : decide (0 < x5_1.length) = true := decide_eq_true (by omega)
   clear c105
   obtain rfl := Option.some.inj H
   obtain ⟨Ao106, co106, eo106⟩ := Kd.R_slice HO_5.out
   subst eo106
   have p208 : 0 ≤ (0 : Int) := (by omega)
   have q208 : 0 < (x5_1.length : Int) := oa_
   obtain ⟨ad208, e208, hx208_0⟩ := Kd.at_bool (Kd.R_reads' HO_5.out).2.2 0 p208 q208
   cases e208
   have qi208 : (0 < x5_1.length) = True := eq_true (by omega)
   (try rw [show ((0 : Int)).toNat = 0 from rfl] at hx208_0)
   (try rw [Addr.add_zero'] at hx208_0)
   replace p208 := eq_true p208
   replace q208 := eq_true q208
   go_wp2
   go_ret
   exact ⟨er_, below_at HB.out⟩
  rw [if_pos c5] at H
  have c5b0 : decide (x14_1 < (l0.length : Int)) = true := decide_eq_true c5
  clear c5
  by_cases c6 : 0 ≤ x14_1
  rotate_left
  ·rw [if_neg c6] at H
   exact absurd H (by simp)
  rw [if_pos c6] at H
  have c6b0 : decide (0 ≤ x14_1) = true := decide_eq_true c6
  clear c6
  by_cases c7 : x14_1 < (l0.length : Int)
  rotate_left
  ·rw [if_neg c7] at H
   exact absurd H (by simp)
  rw [if_pos c7] at H
  have c7b0 : decide (x14_1 < (l0.length : Int)) = true := decide_eq_true c7
  clear c7
  by_cases c8 : ((rd_T47 l0 x14_1).f0) = 0
  ·rw [if_pos c8] at H
   have c8b0 : (((rd_T47 l0 x14_1).f0) == 0) = true := beq_iff_eq.mpr c8
   have c8b1 : (((rd_T47 l0 x14_1).f0) != 0) = false := bne_eq_false_iff_eq.mpr c8
   clear c8
   by_cases c9 : 0 ≤ ((rd_T47 l0 x14_1).f1)
   rotate_left
   ·rw [if_neg c9] at H
    exact absurd H (by simp)
   rw [if_pos c9] at H
   have c9b0 := eq_true c9
   have c9b1 : decide (0 ≤ ((rd_T47 l0 x14_1).f1)) = true := decide_eq_true c9
   clear c9
   obtain ⟨ji10, hji10⟩ : ∃ j_ : Int, (shr .i64 a1 ((rd_T47 l0 x14_1).f1)) = j_ := ⟨_, rfl⟩
   first | rw [hji10] at H | simp only [hji10] at H
   have hji10_ : (a1 / 2 ^ min ((rd_T47 l0 x14_1).f1).toNat 64) = ji10 := hji10
   have hji10z : ((rd_T47 l0 x14_1).f1) ≤ 64 → (a1 / 2 ^ ((rd_T47 l0 x14_1).f1).toNat) = ji10 := shr_small hji10
   by_cases c11 : x5_1.length < 140737488355328
   rotate_left
   ·rw [if_neg c11] at H
    exact absurd H (by simp)
   rw [if_pos c11] at H
   have LMc11 := mk_ c11
   clear c11
   obtain ⟨y211, hy211⟩ : ∃ y_ : List Bool, y_ = (x5_1 ++ [((Go.bits .and .i64 (ji10) 1) == 1)]) := ⟨_, rfl⟩
   first | (replace H := bn_ hy211 H; try dsimp only at H) | rw [← hy211] at H
   have Ny211 := mk_ hy211
   clear hy211
   have H' := mk_ H
   clear H
   have p209 : 0 ≤ (x14_1 : Int) := oa_
   have q209 : x14_1 < (l0.length : Int) := oa_
   obtain ⟨ad209, e209, hx209_0, hx209_1⟩ := at_T47 HR0.out x14_1 p209 q209
   cases e209
   replace hx209_0 := cel HB.out hx209_0
   replace hx209_1 := cel HB.out hx209_1
   replace p209 := eq_true p209
   replace q209 := eq_true q209
   go_wp2_with (first | ((with_reducible refine gate_dst (N := 7) rfl ?_); refine bx_ 7 #[.int .i64 0, .int .i64 0] 47 ?_; intro gb210 hg w12 hbox hb; replace HO_5 := mk_ (Kd.R_below (Kd.R_below HO_5.out lt_) hb); have BK210 := mk_ (hbox); have GW210 := mk_ (gb_ hg HB.out); have GE210 := mk_ (gb_ hg HB.out); replace HB := mk_ (below_step (below_at HB.out) hb); clear hb hbox hg; have hcz13_0 := blk_cell BK210.out 0; have hcz13_1 := blk_cell BK210.out 1; have hfz13_0 := blk_frozen BK210.out 0; have hfz13_1 := blk_frozen BK210.out 1; obtain ⟨Ao14, co14, eo14⟩ := Kd.R_slice HO_5.out; subst eo14) | ((with_reducible refine gate_builtin (b := .append) (xs := #[.tmp 66, .tmp 73]) rfl ?_); at_builtin; refine Kd.R_append Kd.bool (w0 := w) w.heap.size rfl (.tmp 66) (.tmp 73) 102 4 (.bool false) 1 rfl Try.underlying102 info4 rfl (by decide) (by omega) (.slice Ao14 x5_1.length co14) x5_1 ((Go.bits .and .i64 (ji10) 1) == 1) [.bool ((Go.bits .and .i64 (ji10) 1) == 1)] (fun _ => True) (fun _ => False) rfl (by first | (go_simp; done) | (go_simp; rfl)) ?aP (fun _ hk => hk.elim) ?aF ?aO ?aB ?aS ?aL ?_; (case aP => exact rfl); (case aB => exact (at_ HB.out)); (case aF => exact (fun _ _ => trivial)); (case aO => exact (by (with_reducible repeat (first | apply Kd.R_alloc | apply Kd.R_drewN | apply Kd.R_drew)); exact Kd.R_mono (Kd.R_far (p := ⟨gb210, 1, none⟩) (Kd.R_far (p := ⟨gb210, 0, none⟩) (Kd.R_types HO_5.out BK210.out (by decide)) (fun _ hk => hk.2) (.int .i64 ((rd_T47 l0 x14_1).f0))) (fun _ hk => hk.2) (.int .i64 ((rd_T47 l0 x14_1).f1))) (fun _ hk => trivial))); (case aS => exact (below_size (at_ HB.out))); (case aL => have := LMc11.out; omega); intro v212 w15 ho hb hg hat; rw [← Ny211.out] at ho; replace HB := mk_ (hb); have HO213 := mk_ (ho); (try clear BK210 HO_5); clear ho hb hg hat))
   go_roundg k1
   case measure => have := HK1.out; omega
   case rel => exact ⟨(y211), (wrap64 (x14_1 + 1)), sm_, H', ⟨by have := HK1.out; omega⟩, ⟨Kd.R_below HO213.out lt_⟩, ⟨at_ HB.out⟩⟩
  rw [if_neg c8] at H
  have c8b0 : (((rd_T47 l0 x14_1).f0) == 0) = false := beq_eq_false_iff_ne.mpr c8
  have c8b1 : (((rd_T47 l0 x14_1).f0) != 0) = true := bne_iff_ne.mpr c8
  by_cases c16 : ((rd_T47 l0 x14_1).f0) = 1
  ·rw [if_pos c16] at H
   have c16b0 : (((rd_T47 l0 x14_1).f0) == 1) = true := beq_iff_eq.mpr c16
   have c16b1 : (((rd_T47 l0 x14_1).f0) != 1) = false := bne_eq_false_iff_eq.mpr c16
   clear c16
   replace H := Option.bind_eq_some_iff.mp H
   obtain ⟨t214, A170, H⟩ := H
   try dsimp only at H
   have A17 := mk_ A170
   clear A170
   by_cases c18 : x5_1.length < 140737488355328
   rotate_left
   ·rw [if_neg c18] at H
    exact absurd H (by simp)
   rw [if_pos c18] at H
   have LMc18 := mk_ c18
   clear c18
   obtain ⟨y215, hy215⟩ : ∃ y_ : List Bool, y_ = (x5_1 ++ [decide (t214 ≥ ((rd_T47 l0 x14_1).f1))]) := ⟨_, rfl⟩
   first | (replace H := bn_ hy215 H; try dsimp only at H) | rw [← hy215] at H
   have Ny215 := mk_ hy215
   clear hy215
   have H' := mk_ H
   clear H
   have p209 : 0 ≤ (x14_1 : Int) := oa_
   have q209 : x14_1 < (l0.length : Int) := oa_
   obtain ⟨ad209, e209, hx209_0, hx209_1⟩ := at_T47 HR0.out x14_1 p209 q209
   cases e209
   replace hx209_0 := cel HB.out hx209_0
   replace hx209_1 := cel HB.out hx209_1
   replace p209 := eq_true p209
   replace q209 := eq_true q209
   try go_wp2_with (first | ((with_reducible refine gate_dst (N := 7) rfl ?_); refine bx_ 7 #[.int .i64 0, .int .i64 0] 47 ?_; intro gb210 hg w19 hbox hb; replace HO_5 := mk_ (Kd.R_below (Kd.R_below HO_5.out lt_) hb); have BK210 := mk_ (hbox); have GW210 := mk_ (gb_ hg HB.out); have GE210 := mk_ (gb_ hg HB.out); replace HB := mk_ (below_step (below_at HB.out) hb); clear hb hbox hg; have hcz20_0 := blk_cell BK210.out 0; have hcz20_1 := blk_cell BK210.out 1; have hfz20_0 := blk_frozen BK210.out 0; have hfz20_1 := blk_frozen BK210.out 1; obtain ⟨Ao21, co21, eo21⟩ := Kd.R_slice HO_5.out; subst eo21))
   have n0_ : Aside0 (Kd.R Kd.bool 4 ((w19.setCell ⟨gb210, 0, none⟩ (.int .i64 ((rd_T47 l0 x14_1).f0))).setCell ⟨gb210, 1, none⟩ (.int .i64 ((rd_T47 l0 x14_1).f1))) w.heap.size (fun _ => True) (.slice Ao21 x5_1.length co21) x5_1) := ⟨by (with_reducible repeat (first | apply Kd.R_alloc | apply Kd.R_drewN | apply Kd.R_drew)); exact Kd.R_mono (Kd.R_far (p := ⟨gb210, 1, none⟩) (Kd.R_far (p := ⟨gb210, 0, none⟩) (Kd.R_types HO_5.out BK210.out (by decide)) (fun _ hk => hk.2) (.int .i64 ((rd_T47 l0 x14_1).f0))) (fun _ hk => hk.2) (.int .i64 ((rd_T47 l0 x14_1).f1))) (fun _ hk => trivial)⟩
   have n1_ : Aside0 (((w19.setCell ⟨gb210, 0, none⟩ (.int .i64 ((rd_T47 l0 x14_1).f0))).setCell ⟨gb210, 1, none⟩ (.int .i64 ((rd_T47 l0 x14_1).f1))).heap[gb210]? = some (.cells #[.int .i64 ((rd_T47 l0 x14_1).f0), .int .i64 ((rd_T47 l0 x14_1).f1)] 47 (0, 0))) := ⟨by refine bs_ ?_; refine blk_put (cs := #[.int .i64 ((rd_T47 l0 x14_1).f0), .int .i64 0]) ?_ 1 _ rfl; refine bs_ ?_; refine blk_put (cs := #[.int .i64 0, .int .i64 0]) ?_ 0 _ rfl; refine bs_ ?_; exact BK210.out⟩
   have n2_ : Aside0 (Below w.heap.size w ((w19.setCell ⟨gb210, 0, none⟩ (.int .i64 ((rd_T47 l0 x14_1).f0))).setCell ⟨gb210, 1, none⟩ (.int .i64 ((rd_T47 l0 x14_1).f1)))) := ⟨at_ HB.out⟩
   (try clear HO_5)
   (try clear BK210)
   (try clear HB)
   generalize ((w19.setCell ⟨gb210, 0, none⟩ (.int .i64 ((rd_T47 l0 x14_1).f0))).setCell ⟨gb210, 1, none⟩ (.int .i64 ((rd_T47 l0 x14_1).f1))) = w22 at n0_ n1_ n2_ ⊢
   have HO_5 := n0_
   have BK210 := n1_
   have HB := n2_
   clear n0_ n1_ n2_
   replace HO_5 := mk_ (Kd.R_drew HO_5.out)
   replace BK210 := mk_ (blk_drew BK210.out)
   replace HB := mk_ (below_drew1 HB.out)
   refine start_ (n := 10) (S := fun w' => w'.cell? ⟨gb210, 0, none⟩ = some (.int .i64 ((rd_T47 l0 x14_1).f0)) ∧ w'.cell? ⟨gb210, 1, none⟩ = some (.int .i64 ((rd_T47 l0 x14_1).f1))) (ds := []) #[false, false, false, false, false, false, false, false, false, false] (by kernel_rfl) rfl rfl ⟨(blk_cell BK210.out 0).trans rfl, (blk_cell BK210.out 1).trans rfl⟩ (fun hHeld => ?_); refine with_tabW impl_holds.tab18 impl_holds.bits18 (fun HT_ HW_ => ?_)
   generalize w22.drew = w23 at HO_5 BK210 HB hHeld ⊢
   refine pus_ 0 (some 77) (ao_ HT_) ?_
   refine pus_ 1 (some 78) (ao_ HT_) ?_
   refine pus_ 2 (some 79) (ao_ HT_) ?_
   refine pus_ 4 (some 81) (ao_ HT_) ?_
   refine tas_ 5 (some 82) (to_ HT_ HW_) hHeld ?_
   refine ons_ 3 (some 80) (oo_ HT_) (fun K hK => ?_)
   refine goes_ Try.func112 (by kernel_rfl) rfl #[.int .u64 (IntKind.u64.wrap (a1))] (by rfl) rfl rfl gl_ ?_
   with_reducible refine (bits_OnesCount.calls (IntKind.u64.wrap (a1)) t214 _ A17.out).mono ?_
   rintro e w' ⟨rfl, ⟨nd, rfl⟩⟩
   refine ⟨_, rfl, ?_⟩
   refine hK.out _ _ ⟨(blk_cell BK210.out 0).trans rfl, (blk_cell BK210.out 1).trans rfl⟩ (fun hHeld => ?_)
   clear hK K
   refine nor_ (some 80) ?_
   refine pus_ 6 (some 83) (ao_ HT_) ?_
   refine ons_ 7 (some 84) (oo_ HT_) (fun K hK => ?_)
   refine value_ (w1 := ?_) (v := ?_) (by rfl) rfl ?_ ?_
   rotate_left 2
   ·go_simp
    constructor
    ·rfl
    rfl
   refine hK.out _ _ ⟨(blk_cell (blk_alloc BK210.out _) 0).trans rfl, (blk_cell (blk_alloc BK210.out _) 1).trans rfl⟩ (fun hHeld => ?_)
   clear hK K
   refine nor_ (some 84) ?_
   refine ons_ 8 (some 85) (oo_ HT_) (fun K hK => ?_)
   refine Kd.R_append_step Kd.bool (w0 := w) w.heap.size (by rfl) (.tmp 77) (.tmp 84) 102 4 (.bool false) 1 rfl Try.underlying102 info4 rfl (by decide) (by omega) (.slice Ao21 x5_1.length co21) x5_1 (decide (t214 ≥ ((rd_T47 l0 x14_1).f1))) [.bool (decide (t214 ≥ ((rd_T47 l0 x14_1).f1)))] (fun _ => True) (fun _ => False) rfl rfl ?aP (fun _ hk => hk.elim) ?aF ?aO ?aB ?aS ?aL ?_
   (case aP => exact rfl)
   (case aB => exact (at_ HB.out))
   (case aF => exact (fun _ _ => trivial))
   (case aO => exact (Kd.R_below HO_5.out lt_))
   (case aS => exact (below_size (at_ HB.out)))
   (case aL => have := LMc18.out; omega)
   intro v216 w24 ho hb hg hat
   rw [← Ny215.out] at ho
   replace BK210 := mk_ (blk_grown (g := gb210) (o := .cells #[.int .i64 ((rd_T47 l0 x14_1).f0), .int .i64 ((rd_T47 l0 x14_1).f1)] 47 (0, 0)) (bk_ BK210.out) hg (Kd.R_ne HO_5.out BK210.out (by decide)))
   replace HB := mk_ (hb)
   have HO217 := mk_ (ho)
   (try clear HO_5)
   clear ho hb hg hat
   refine hK.out _ _ ⟨(blk_cell BK210.out 0).trans rfl, (blk_cell BK210.out 1).trans rfl⟩ (fun hHeld => ?_)
   clear hK K
   refine nor_ (some 85) ?_
   refine pus_ 9 (some 5) (ao_ HT_) ?_
   refine done_ (done_of HT_.out (by kernel_rfl)) ?_
   try go_wp2
   go_roundg k1
   case measure => have := HK1.out; omega
   case rel => exact ⟨(y215), (wrap64 (x14_1 + 1)), sm_, H', ⟨by have := HK1.out; omega⟩, ⟨Kd.R_below HO217.out lt_⟩, ⟨at_ HB.out⟩⟩
  rw [if_neg c16] at H
  have c16b0 : (((rd_T47 l0 x14_1).f0) == 1) = false := beq_eq_false_iff_ne.mpr c16
  have c16b1 : (((rd_T47 l0 x14_1).f0) != 1) = true := bne_iff_ne.mpr c16
  by_cases c25 : ((rd_T47 l0 x14_1).f0) = 2
  ·rw [if_pos c25] at H
   have c25b0 : (((rd_T47 l0 x14_1).f0) == 2) = true := beq_iff_eq.mpr c25
   have c25b1 : (((rd_T47 l0 x14_1).f0) != 2) = false := bne_eq_false_iff_eq.mpr c25
   clear c25
   obtain ⟨ji26, hji26⟩ : ∃ j_ : Int, (wrap64 ((x5_1.length : Int) - 1)) = j_ := ⟨_, rfl⟩
   first | rw [hji26] at H | simp only [hji26] at H
   have hji26w : (IntKind.i64.wrap ((x5_1.length : Int) - 1)) = ji26 := (i64_w _).trans hji26
   by_cases c27 : 0 ≤ (ji26)
   rotate_left
   ·rw [if_neg c27] at H
    exact absurd H (by simp)
   rw [if_pos c27] at H
   have c27b0 : decide (0 ≤ (ji26)) = true := decide_eq_true c27
   clear c27
   by_cases c28 : (ji26) < (x5_1.length : Int)
   rotate_left
   ·rw [if_neg c28] at H
    exact absurd H (by simp)
   rw [if_pos c28] at H
   have c28b0 : decide ((ji26) < (x5_1.length : Int)) = true := decide_eq_true c28
   clear c28
   obtain ⟨y219, hy219⟩ : ∃ y_ : List Bool, y_ = (x5_1.set ((ji26) : Int).toNat (!(rdOf false x5_1 (ji26)))) := ⟨_, rfl⟩
   first | (replace H := bn_ hy219 H; try dsimp only at H) | rw [← hy219] at H
   have Ny219 := mk_ hy219
   clear hy219
   have H' := mk_ H
   clear H
   have p209 : 0 ≤ (x14_1 : Int) := oa_
   have q209 : x14_1 < (l0.length : Int) := oa_
   obtain ⟨ad209, e209, hx209_0, hx209_1⟩ := at_T47 HR0.out x14_1 p209 q209
   cases e209
   replace hx209_0 := cel HB.out hx209_0
   replace hx209_1 := cel HB.out hx209_1
   replace p209 := eq_true p209
   replace q209 := eq_true q209
   go_wp2_with (first | ((with_reducible refine gate_dst (N := 7) rfl ?_); refine bx_ 7 #[.int .i64 0, .int .i64 0] 47 ?_; intro gb210 hg w30 hbox hb; replace HO_5 := mk_ (Kd.R_below (Kd.R_below HO_5.out lt_) hb); have BK210 := mk_ (hbox); have GW210 := mk_ (gb_ hg HB.out); have GE210 := mk_ (gb_ hg HB.out); replace HB := mk_ (below_step (below_at HB.out) hb); clear hb hbox hg; have hcz31_0 := blk_cell BK210.out 0; have hcz31_1 := blk_cell BK210.out 1; have hfz31_0 := blk_frozen BK210.out 0; have hfz31_1 := blk_frozen BK210.out 1) | ((with_reducible refine gate_store (t := 47) (p := 7) rfl ?_); refine store_event (t := 47) (p := 7) (v := ?vo_w32) (w1 := ((w30.setCell ⟨gb210, 0, none⟩ (.int .i64 ((rd_T47 l0 x14_1).f0))).setCell ⟨gb210, 1, none⟩ (.int .i64 ((rd_T47 l0 x14_1).f1)))) ?hg ?ho ?hn ?hr ?_; (case ho => rfl); (case hg => rfl); (case hn => rfl); (case hr => first | (go_simp; done) | (go_simp; rfl)); intro w32 hw; have n0_ : Aside0 (Kd.R Kd.bool 4 w32 w.heap.size (fun _ => True) u5 x5_1) := ⟨(by rw [hw]; exact (by (with_reducible repeat (first | apply Kd.R_alloc | apply Kd.R_drewN | apply Kd.R_drew)); exact Kd.R_mono (Kd.R_far (p := ⟨gb210, 1, none⟩) (Kd.R_far (p := ⟨gb210, 0, none⟩) (Kd.R_types HO_5.out BK210.out (by decide)) (fun _ hk => hk.2) (.int .i64 ((rd_T47 l0 x14_1).f0))) (fun _ hk => hk.2) (.int .i64 ((rd_T47 l0 x14_1).f1))) (fun _ hk => trivial)))⟩; have n1_ : Aside0 (w32.heap[gb210]? = some (.cells #[.int .i64 ((rd_T47 l0 x14_1).f0), .int .i64 ((rd_T47 l0 x14_1).f1)] 47 (0, 0))) := ⟨(by rw [hw]; exact (by refine bs_ ?_; refine blk_put (cs := #[.int .i64 ((rd_T47 l0 x14_1).f0), .int .i64 0]) ?_ 1 _ rfl; refine bs_ ?_; refine blk_put (cs := #[.int .i64 0, .int .i64 0]) ?_ 0 _ rfl; refine bs_ ?_; exact BK210.out))⟩; have n2_ : Aside0 (Below w.heap.size w w32) := ⟨(by rw [hw]; exact (at_ HB.out))⟩; clear hw; clear HO_5; clear BK210; clear HB; have HO_5 := n0_; have BK210 := n1_; have HB := n2_; clear n0_ n1_ n2_; obtain ⟨Ao33, co33, eo33⟩ := Kd.R_slice HO_5.out; subst eo33; have hcz34_0 := blk_cell BK210.out 0; have hcz34_1 := blk_cell BK210.out 1; have hfz34_0 := blk_frozen BK210.out 0; have hfz34_1 := blk_frozen BK210.out 1; have p218 : 0 ≤ ((ji26) : Int) := oa_; have q218 : (ji26) < (x5_1.length : Int) := oa_; obtain ⟨ad218, e218, hx218_0⟩ := Kd.at_bool (Kd.R_reads' HO_5.out).2.2 (ji26) p218 q218; cases e218; replace p218 := eq_true p218; replace q218 := eq_true q218; have p29 : 0 ≤ ((ji26) : Int) := oa_; have q29 : ((ji26) : Int) < ((x5_1.length : Int) : Int) := oa_; obtain ⟨go29, co29, eo29, gb29, gl29, cl29, HG29⟩ := Kd.R_form HO_5.out (by omega); (first | cases eo29 | (injection eo29 with ea_ en_ ec_; (first | subst ea_ | (injection ea_ with ea_; subst ea_)); subst ec_; clear en_)); have GB29 := mk_ gb29; have GG29 := mk_ HG29; clear gb29 gl29 HG29; (first | simp only [add_plain] at hx218_0 | skip); obtain ⟨hx29_0, hf29_0⟩ := Kd.R_celln false HO_5.out ((ji26) : Int) p29 q29; replace p29 := eq_true p29; replace q29 := eq_true q29; obtain ⟨hy35_, hz35_⟩ := Kd.R_celln false HO_5.out ((ji26) : Int) (oa_) (oa_); have HP35 := Kd.R_putg HO_5.out ((ji26) : Int) (!(rdOf false x5_1 (ji26)))) | ((with_reducible refine gate_store (t := 4) (p := 95) rfl ?_); refine store_event (t := 4) (p := 95) (v := ?vo_w36) (w1 := (w32.setCell ⟨go29, ((ji26) : Int).toNat, none⟩ (.bool (!(rdOf false x5_1 (ji26)))))) ?hg ?ho ?hn ?hr ?_; (case ho => rfl); (case hg => rfl); (case hn => rfl); (case hr => first | (go_simp; done) | (go_simp; rfl)); intro w36 hw; have hg : w32.grownBy w36 (some go29) := (by rw [hw]; exact HP35.2); have hp_ : Kd.R Kd.bool 4 w36 w.heap.size (fun _ => True) (.slice (some ⟨go29, 0, none⟩) x5_1.length co33) y219 := (by rw [hw, Ny219.out]; exact HP35.1); clear HP35; replace HO_5 := mk_ (hp_); replace HB := mk_ ((by rw [hw]; exact below_set (HB.out) GB29.out : Below w.heap.size w w36)); (try clear BK210); clear hg hw hp_))
   (try subst hji26)
   go_roundg k1
   case measure => have := HK1.out; omega
   case rel => exact ⟨(y219), (wrap64 (x14_1 + 1)), sm_, H', ⟨by have := HK1.out; omega⟩, ⟨Kd.R_below HO_5.out lt_⟩, ⟨at_ HB.out⟩⟩
  rw [if_neg c25] at H
  have c25b0 : (((rd_T47 l0 x14_1).f0) == 2) = false := beq_eq_false_iff_ne.mpr c25
  have c25b1 : (((rd_T47 l0 x14_1).f0) != 2) = true := bne_iff_ne.mpr c25
  obtain ⟨ji37, hji37⟩ : ∃ j_ : Int, (wrap64 ((wrap64 ((x5_1.length : Int) - 1)) - 1)) = j_ := ⟨_, rfl⟩
  first | rw [hji37] at H | simp only [hji37] at H
  have hji37w : (IntKind.i64.wrap ((wrap64 ((x5_1.length : Int) - 1)) - 1)) = ji37 := (i64_w _).trans hji37
  by_cases c38 : 0 ≤ (ji37)
  rotate_left
  ·rw [if_neg c38] at H
   exact absurd H (by simp)
  rw [if_pos c38] at H
  have c38b0 : decide (0 ≤ (ji37)) = true := decide_eq_true c38
  clear c38
  by_cases c39 : (ji37) < (x5_1.length : Int)
  rotate_left
  ·rw [if_neg c39] at H
   exact absurd H (by simp)
  rw [if_pos c39] at H
  have c39b0 : decide ((ji37) < (x5_1.length : Int)) = true := decide_eq_true c39
  clear c39
  obtain ⟨ji40, hji40⟩ : ∃ j_ : Int, (wrap64 ((x5_1.length : Int) - 1)) = j_ := ⟨_, rfl⟩
  (try have hji37_ji40 : (wrap64 (ji40 - 1)) = ji37 := by (rw [← hji40]; exact hji37))
  (try have hji37w_ji40 : (IntKind.i64.wrap (ji40 - 1)) = ji37 := (i64_w _).trans hji37_ji40)
  first | rw [hji40] at H | simp only [hji40] at H
  have hji40w : (IntKind.i64.wrap ((x5_1.length : Int) - 1)) = ji40 := (i64_w _).trans hji40
  by_cases c41 : 0 ≤ (ji40)
  rotate_left
  ·rw [if_neg c41] at H
   exact absurd H (by simp)
  rw [if_pos c41] at H
  have c41b0 : decide (0 ≤ (ji40)) = true := decide_eq_true c41
  clear c41
  by_cases c42 : (ji40) < (x5_1.length : Int)
  rotate_left
  ·rw [if_neg c42] at H
   exact absurd H (by simp)
  rw [if_pos c42] at H
  have c42b0 : decide ((ji40) < (x5_1.length : Int)) = true := decide_eq_true c42
  clear c42
  by_cases c43 : (ji40) ≤ (x5_1.length : Int)
  rotate_left
  ·rw [if_neg c43] at H
   exact absurd H (by simp)
  rw [if_pos c43] at H
  have c43b0 := eq_true c43
  have c43b1 : decide ((ji40) ≤ (x5_1.length : Int)) = true := decide_eq_true c43
  clear c43
  obtain ⟨y222, hy222⟩ : ∃ y_ : List Bool, y_ = (x5_1.take ((ji40) : Int).toNat) := ⟨_, rfl⟩
  first | (replace H := bn_ hy222 H; try dsimp only at H) | rw [← hy222] at H
  have Ny222 := mk_ hy222
  clear hy222
  by_cases c44 : ((rd_T47 l0 x14_1).f0) = 3
  ·rw [if_pos c44] at H
   have c44b0 : (((rd_T47 l0 x14_1).f0) == 3) = true := beq_iff_eq.mpr c44
   have c44b1 : (((rd_T47 l0 x14_1).f0) != 3) = false := bne_eq_false_iff_eq.mpr c44
   clear c44
   obtain ⟨bq45, hbq45⟩ : ∃ b_ : Bool, b_ = (rdOf false x5_1 (ji37)) := ⟨_, rfl⟩
   replace H : (if bq45 = true then (if (ji37) < (y222.length : Int) then (impl_holds.l0 k1 a1 (y222.set ((ji37) : Int).toNat (rdOf false x5_1 (ji40))) l0 (l0.length : Int) (wrap64 (x14_1 + 1))) else (none)) else (if (ji37) < (y222.length : Int) then (impl_holds.l0 k1 a1 (y222.set ((ji37) : Int).toNat false) l0 (l0.length : Int) (wrap64 (x14_1 + 1))) else (none))) = some r := by rw [← hbq45] at H; exact H
   have Nbq45 := mk_ hbq45
   clear hbq45
   by_cases c46 : bq45 = true
   ·subst c46
    rw [if_pos rfl] at H
    by_cases c47 : (ji37) < (y222.length : Int)
    rotate_left
    ·rw [if_neg c47] at H
     exact absurd H (by simp)
    rw [if_pos c47] at H
    have c47b0 : decide ((ji37) < (y222.length : Int)) = true := decide_eq_true c47
    clear c47
    obtain ⟨y225, hy225⟩ : ∃ y_ : List Bool, y_ = (y222.set ((ji37) : Int).toNat (rdOf false x5_1 (ji40))) := ⟨_, rfl⟩
    first | (replace H := bn_ hy225 H; try dsimp only at H) | rw [← hy225] at H
    have Ny225 := mk_ hy225
    clear hy225
    have H' := mk_ H
    clear H
    have p209 : 0 ≤ (x14_1 : Int) := oa_
    have q209 : x14_1 < (l0.length : Int) := oa_
    obtain ⟨ad209, e209, hx209_0, hx209_1⟩ := at_T47 HR0.out x14_1 p209 q209
    cases e209
    replace hx209_0 := cel HB.out hx209_0
    replace hx209_1 := cel HB.out hx209_1
    replace p209 := eq_true p209
    replace q209 := eq_true q209
    try go_wp2_with (first | ((with_reducible refine gate_dst (N := 7) rfl ?_); refine bx_ 7 #[.int .i64 0, .int .i64 0] 47 ?_; intro gb210 hg w49 hbox hb; replace HO_5 := mk_ (Kd.R_below (Kd.R_below HO_5.out lt_) hb); have BK210 := mk_ (hbox); have GW210 := mk_ (gb_ hg HB.out); have GE210 := mk_ (gb_ hg HB.out); replace HB := mk_ (below_step (below_at HB.out) hb); clear hb hbox hg; have hcz50_0 := blk_cell BK210.out 0; have hcz50_1 := blk_cell BK210.out 1; have hfz50_0 := blk_frozen BK210.out 0; have hfz50_1 := blk_frozen BK210.out 1; obtain ⟨Ao51, co51, eo51⟩ := Kd.R_slice HO_5.out; subst eo51))
    have n0_ : Aside0 (Kd.R Kd.bool 4 ((w49.setCell ⟨gb210, 0, none⟩ (.int .i64 ((rd_T47 l0 x14_1).f0))).setCell ⟨gb210, 1, none⟩ (.int .i64 ((rd_T47 l0 x14_1).f1))) w.heap.size (fun _ => True) (.slice Ao51 x5_1.length co51) x5_1) := ⟨by (with_reducible repeat (first | apply Kd.R_alloc | apply Kd.R_drewN | apply Kd.R_drew)); exact Kd.R_mono (Kd.R_far (p := ⟨gb210, 1, none⟩) (Kd.R_far (p := ⟨gb210, 0, none⟩) (Kd.R_types HO_5.out BK210.out (by decide)) (fun _ hk => hk.2) (.int .i64 ((rd_T47 l0 x14_1).f0))) (fun _ hk => hk.2) (.int .i64 ((rd_T47 l0 x14_1).f1))) (fun _ hk => trivial)⟩
    have n1_ : Aside0 (((w49.setCell ⟨gb210, 0, none⟩ (.int .i64 ((rd_T47 l0 x14_1).f0))).setCell ⟨gb210, 1, none⟩ (.int .i64 ((rd_T47 l0 x14_1).f1))).heap[gb210]? = some (.cells #[.int .i64 ((rd_T47 l0 x14_1).f0), .int .i64 ((rd_T47 l0 x14_1).f1)] 47 (0, 0))) := ⟨by refine bs_ ?_; refine blk_put (cs := #[.int .i64 ((rd_T47 l0 x14_1).f0), .int .i64 0]) ?_ 1 _ rfl; refine bs_ ?_; refine blk_put (cs := #[.int .i64 0, .int .i64 0]) ?_ 0 _ rfl; refine bs_ ?_; exact BK210.out⟩
    have n2_ : Aside0 (Below w.heap.size w ((w49.setCell ⟨gb210, 0, none⟩ (.int .i64 ((rd_T47 l0 x14_1).f0))).setCell ⟨gb210, 1, none⟩ (.int .i64 ((rd_T47 l0 x14_1).f1)))) := ⟨at_ HB.out⟩
    (try clear HO_5)
    (try clear BK210)
    (try clear HB)
    generalize ((w49.setCell ⟨gb210, 0, none⟩ (.int .i64 ((rd_T47 l0 x14_1).f0))).setCell ⟨gb210, 1, none⟩ (.int .i64 ((rd_T47 l0 x14_1).f1))) = w52 at n0_ n1_ n2_ ⊢
    have HO_5 := n0_
    have BK210 := n1_
    have HB := n2_
    clear n0_ n1_ n2_
    replace HO_5 := mk_ (Kd.R_drew HO_5.out)
    replace BK210 := mk_ (blk_drew BK210.out)
    replace HB := mk_ (below_drew1 HB.out)
    have p220 : 0 ≤ ((ji37) : Int) := oa_
    have q220 : (ji37) < (x5_1.length : Int) := oa_
    obtain ⟨ad220, e220, hx220_0⟩ := Kd.at_bool (Kd.R_reads' HO_5.out).2.2 (ji37) p220 q220
    (try rw [← Nbq45.out] at hx220_0)
    cases e220
    replace p220 := eq_true p220
    replace q220 := eq_true q220
    have p221 : 0 ≤ ((ji40) : Int) := oa_
    have q221 : (ji40) < (x5_1.length : Int) := oa_
    obtain ⟨ad221, e221, hx221_0⟩ := Kd.at_bool (Kd.R_reads' HO_5.out).2.2 (ji40) p221 q221
    (try rw [← Nbq45.out] at hx221_0)
    obtain rfl : ad220 = ad221 := (by injection e221)
    replace p221 := eq_true p221
    replace q221 := eq_true q221
    refine start_ (n := 11) (S := fun w' => w'.cell? (ad220.add ((ji37)).toNat) = some (.bool true) ∧ w'.cell? (ad220.add ((ji40)).toNat) = some (.bool (rdOf false x5_1 (ji40)))) (ds := []) #[false, false, false, false, false, false, false, false, false, false, false] (by kernel_rfl) rfl rfl ⟨hx220_0, hx221_0⟩ (fun hHeld => ?_); refine with_tabW impl_holds.tab7 impl_holds.bits7 (fun HT_ HW_ => ?_)
    generalize w52.drew = w53 at HO_5 BK210 HB hx220_0 hx221_0 hHeld ⊢
    refine pus_ 0 (some 23) (ao_ HT_) ?_
    refine pus_ 1 (some 24) (ao_ HT_) ?_
    refine pus_ 2 (some 25) (ao_ HT_) ?_
    refine pus_ 3 (some 26) (ao_ HT_) ?_
    refine pus_ 5 (some 28) (ao_ HT_) ?_
    refine pus_ 6 (some 29) (ao_ HT_) ?_
    refine pus_ 7 (some 30) (ao_ HT_) ?_
    refine tas_ 4 (some 27) (to_ HT_ HW_) hHeld ?_
    refine pus_ 9 (some 9) (ao_ HT_) ?_
    refine tas_ 8 (some 31) (to_ HT_ HW_) hHeld ?_
    refine pus_ 10 (some 10) (ao_ HT_) ?_
    refine done_ (done_of HT_.out (by kernel_rfl)) ?_
    have q54 : ((ji40) : Int) ≤ ((x5_1.length : Int) : Int) := oa_
    obtain ⟨i054, hi054, _, hsz54, _⟩ := info_parts info4
    have hcut54 := cut_to (P := Try.prog) 102 4 .i64 Try.underlying102 hi054 (some ad220) x5_1.length co51 (ji40) (oa_) q54 (Kd.R_reads' HO_5.out).2.1
    have hr54 := Kd.R_take (m := ((ji40) : Int).toNat) HO_5.out (by omega)
    have hy54 : y222.length = ((ji40) : Int).toNat := (by rw [Ny222.out, List.length_take]; omega)
    rw [← Ny222.out] at hr54
    rw [← hy54] at hr54 hcut54
    clear hy54 hi054 hsz54 HO_5
    have HO224 := mk_ hr54
    clear hr54
    replace q54 := eq_true q54
    have hcz55_0 := blk_cell BK210.out 0
    have hcz55_1 := blk_cell BK210.out 1
    have hfz55_0 := blk_frozen BK210.out 0
    have hfz55_1 := blk_frozen BK210.out 1
    have p48 : 0 ≤ ((ji37) : Int) := oa_
    have q48 : ((ji37) : Int) < ((y222.length : Int) : Int) := oa_
    obtain ⟨go48, co48, eo48, gb48, gl48, cl48, HG48⟩ := Kd.R_form HO224.out (by omega)
    (first | cases eo48 | (injection eo48 with ea_ en_ ec_; (first | subst ea_ | (injection ea_ with ea_; subst ea_)); subst ec_; clear en_))
    have GB48 := mk_ gb48
    have GG48 := mk_ HG48
    clear gb48 gl48 HG48
    (first | simp only [add_plain] at hx220_0 | skip)
    (first | simp only [add_plain] at hx221_0 | skip)
    obtain ⟨hx48_0, hf48_0⟩ := Kd.R_celln false HO224.out ((ji37) : Int) p48 q48
    replace p48 := eq_true p48
    replace q48 := eq_true q48
    obtain ⟨hy56_, hz56_⟩ := Kd.R_celln false HO224.out ((ji37) : Int) (oa_) (oa_)
    have HP56 := Kd.R_putg HO224.out ((ji37) : Int) (rdOf false x5_1 (ji40))
    try go_wp2_with (first | ((with_reducible refine gate_store (t := 4) (p := 53) rfl ?_); refine store_event (t := 4) (p := 53) (v := ?vo_w57) (w1 := (w53.setCell ⟨go48, ((ji37) : Int).toNat, none⟩ (.bool (rdOf false x5_1 (ji40))))) ?hg ?ho ?hn ?hr ?_; (case ho => rfl); (case hg => rfl); (case hn => rfl); (case hr => first | (go_simp; done) | (go_simp; rfl)); intro w57 hw; have hg : w53.grownBy w57 (some go48) := (by rw [hw]; exact HP56.2); have hp_ : Kd.R Kd.bool 4 w57 w.heap.size (fun _ => True) (.slice (some ⟨go48, 0, none⟩) y222.length co51) y225 := (by rw [hw, Ny225.out]; exact HP56.1); clear HP56; replace HO224 := mk_ (hp_); replace HB := mk_ ((by rw [hw]; exact below_set (HB.out) GB48.out : Below w.heap.size w w57)); (try clear BK210); clear hg hw hp_))
    (try subst hji40)
    (try subst hji37)
    go_roundg k1
    case measure => have := HK1.out; omega
    case rel => exact ⟨(y225), (wrap64 (x14_1 + 1)), sm_, H', ⟨by have := HK1.out; omega⟩, ⟨Kd.R_below HO224.out lt_⟩, ⟨at_ HB.out⟩⟩
   replace c46 := Bool.eq_false_iff.mpr c46
   subst c46
   rw [if_neg Bool.false_ne_true] at H
   by_cases c58 : (ji37) < (y222.length : Int)
   rotate_left
   ·rw [if_neg c58] at H
    exact absurd H (by simp)
   rw [if_pos c58] at H
   have c58b0 : decide ((ji37) < (y222.length : Int)) = true := decide_eq_true c58
   clear c58
   obtain ⟨y226, hy226⟩ : ∃ y_ : List Bool, y_ = (y222.set ((ji37) : Int).toNat false) := ⟨_, rfl⟩
   first | (replace H := bn_ hy226 H; try dsimp only at H) | rw [← hy226] at H
   have Ny226 := mk_ hy226
   clear hy226
   have H' := mk_ H
   clear H
   have p209 : 0 ≤ (x14_1 : Int) := oa_
   have q209 : x14_1 < (l0.length : Int) := oa_
   obtain ⟨ad209, e209, hx209_0, hx209_1⟩ := at_T47 HR0.out x14_1 p209 q209
   cases e209
   replace hx209_0 := cel HB.out hx209_0
   replace hx209_1 := cel HB.out hx209_1
   replace p209 := eq_true p209
   replace q209 := eq_true q209
   try go_wp2_with (first | ((with_reducible refine gate_dst (N := 7) rfl ?_); refine bx_ 7 #[.int .i64 0, .int .i64 0] 47 ?_; intro gb210 hg w60 hbox hb; replace HO_5 := mk_ (Kd.R_below (Kd.R_below HO_5.out lt_) hb); have BK210 := mk_ (hbox); have GW210 := mk_ (gb_ hg HB.out); have GE210 := mk_ (gb_ hg HB.out); replace HB := mk_ (below_step (below_at HB.out) hb); clear hb hbox hg; have hcz61_0 := blk_cell BK210.out 0; have hcz61_1 := blk_cell BK210.out 1; have hfz61_0 := blk_frozen BK210.out 0; have hfz61_1 := blk_frozen BK210.out 1; obtain ⟨Ao62, co62, eo62⟩ := Kd.R_slice HO_5.out; subst eo62))
   have n0_ : Aside0 (Kd.R Kd.bool 4 ((w60.setCell ⟨gb210, 0, none⟩ (.int .i64 ((rd_T47 l0 x14_1).f0))).setCell ⟨gb210, 1, none⟩ (.int .i64 ((rd_T47 l0 x14_1).f1))) w.heap.size (fun _ => True) (.slice Ao62 x5_1.length co62) x5_1) := ⟨by (with_reducible repeat (first | apply Kd.R_alloc | apply Kd.R_drewN | apply Kd.R_drew)); exact Kd.R_mono (Kd.R_far (p := ⟨gb210, 1, none⟩) (Kd.R_far (p := ⟨gb210, 0, none⟩) (Kd.R_types HO_5.out BK210.out (by decide)) (fun _ hk => hk.2) (.int .i64 ((rd_T47 l0 x14_1).f0))) (fun _ hk => hk.2) (.int .i64 ((rd_T47 l0 x14_1).f1))) (fun _ hk => trivial)⟩
   have n1_ : Aside0 (((w60.setCell ⟨gb210, 0, none⟩ (.int .i64 ((rd_T47 l0 x14_1).f0))).setCell ⟨gb210, 1, none⟩ (.int .i64 ((rd_T47 l0 x14_1).f1))).heap[gb210]? = some (.cells #[.int .i64 ((rd_T47 l0 x14_1).f0), .int .i64 ((rd_T47 l0 x14_1).f1)] 47 (0, 0))) := ⟨by refine bs_ ?_; refine blk_put (cs := #[.int .i64 ((rd_T47 l0 x14_1).f0), .int .i64 0]) ?_ 1 _ rfl; refine bs_ ?_; refine blk_put (cs := #[.int .i64 0, .int .i64 0]) ?_ 0 _ rfl; refine bs_ ?_; exact BK210.out⟩
   have n2_ : Aside0 (Below w.heap.size w ((w60.setCell ⟨gb210, 0, none⟩ (.int .i64 ((rd_T47 l0 x14_1).f0))).setCell ⟨gb210, 1, none⟩ (.int .i64 ((rd_T47 l0 x14_1).f1)))) := ⟨at_ HB.out⟩
   (try clear HO_5)
   (try clear BK210)
   (try clear HB)
   generalize ((w60.setCell ⟨gb210, 0, none⟩ (.int .i64 ((rd_T47 l0 x14_1).f0))).setCell ⟨gb210, 1, none⟩ (.int .i64 ((rd_T47 l0 x14_1).f1))) = w63 at n0_ n1_ n2_ ⊢
   have HO_5 := n0_
   have BK210 := n1_
   have HB := n2_
   clear n0_ n1_ n2_
   replace HO_5 := mk_ (Kd.R_drew HO_5.out)
   replace BK210 := mk_ (blk_drew BK210.out)
   replace HB := mk_ (below_drew1 HB.out)
   have p220 : 0 ≤ ((ji37) : Int) := oa_
   have q220 : (ji37) < (x5_1.length : Int) := oa_
   obtain ⟨ad220, e220, hx220_0⟩ := Kd.at_bool (Kd.R_reads' HO_5.out).2.2 (ji37) p220 q220
   (try rw [← Nbq45.out] at hx220_0)
   cases e220
   replace p220 := eq_true p220
   replace q220 := eq_true q220
   have p221 : 0 ≤ ((ji40) : Int) := oa_
   have q221 : (ji40) < (x5_1.length : Int) := oa_
   obtain ⟨ad221, e221, hx221_0⟩ := Kd.at_bool (Kd.R_reads' HO_5.out).2.2 (ji40) p221 q221
   (try rw [← Nbq45.out] at hx221_0)
   obtain rfl : ad220 = ad221 := (by injection e221)
   replace p221 := eq_true p221
   replace q221 := eq_true q221
   refine start_ (n := 11) (S := fun w' => w'.cell? (ad220.add ((ji37)).toNat) = some (.bool false) ∧ w'.cell? (ad220.add ((ji40)).toNat) = some (.bool (rdOf false x5_1 (ji40)))) (ds := []) #[false, false, false, false, false, false, false, false, false, false, false] (by kernel_rfl) rfl rfl ⟨hx220_0, hx221_0⟩ (fun hHeld => ?_); refine with_tabW impl_holds.tab7 impl_holds.bits7 (fun HT_ HW_ => ?_)
   generalize w63.drew = w64 at HO_5 BK210 HB hx220_0 hx221_0 hHeld ⊢
   refine pus_ 0 (some 23) (ao_ HT_) ?_
   refine pus_ 1 (some 24) (ao_ HT_) ?_
   refine pus_ 2 (some 25) (ao_ HT_) ?_
   refine pus_ 3 (some 26) (ao_ HT_) ?_
   refine pus_ 5 (some 28) (ao_ HT_) ?_
   refine pus_ 6 (some 29) (ao_ HT_) ?_
   refine pus_ 7 (some 30) (ao_ HT_) ?_
   refine tas_ 4 (some 27) (to_ HT_ HW_) hHeld ?_
   refine pus_ 9 (some 9) (ao_ HT_) ?_
   refine tas_ 8 (some 31) (to_ HT_ HW_) hHeld ?_
   refine pus_ 10 (some 10) (ao_ HT_) ?_
   refine done_ (done_of HT_.out (by kernel_rfl)) ?_
   have q65 : ((ji40) : Int) ≤ ((x5_1.length : Int) : Int) := oa_
   obtain ⟨i065, hi065, _, hsz65, _⟩ := info_parts info4
   have hcut65 := cut_to (P := Try.prog) 102 4 .i64 Try.underlying102 hi065 (some ad220) x5_1.length co62 (ji40) (oa_) q65 (Kd.R_reads' HO_5.out).2.1
   have hr65 := Kd.R_take (m := ((ji40) : Int).toNat) HO_5.out (by omega)
   have hy65 : y222.length = ((ji40) : Int).toNat := (by rw [Ny222.out, List.length_take]; omega)
   rw [← Ny222.out] at hr65
   rw [← hy65] at hr65 hcut65
   clear hy65 hi065 hsz65 HO_5
   have HO224 := mk_ hr65
   clear hr65
   replace q65 := eq_true q65
   have hcz66_0 := blk_cell BK210.out 0
   have hcz66_1 := blk_cell BK210.out 1
   have hfz66_0 := blk_frozen BK210.out 0
   have hfz66_1 := blk_frozen BK210.out 1
   have p59 : 0 ≤ ((ji37) : Int) := oa_
   have q59 : ((ji37) : Int) < ((y222.length : Int) : Int) := oa_
   obtain ⟨go59, co59, eo59, gb59, gl59, cl59, HG59⟩ := Kd.R_form HO224.out (by omega)
   (first | cases eo59 | (injection eo59 with ea_ en_ ec_; (first | subst ea_ | (injection ea_ with ea_; subst ea_)); subst ec_; clear en_))
   have GB59 := mk_ gb59
   have GG59 := mk_ HG59
   clear gb59 gl59 HG59
   (first | simp only [add_plain] at hx220_0 | skip)
   (first | simp only [add_plain] at hx221_0 | skip)
   obtain ⟨hx59_0, hf59_0⟩ := Kd.R_celln false HO224.out ((ji37) : Int) p59 q59
   replace p59 := eq_true p59
   replace q59 := eq_true q59
   obtain ⟨hy67_, hz67_⟩ := Kd.R_celln false HO224.out ((ji37) : Int) (oa_) (oa_)
   have HP67 := Kd.R_putg HO224.out ((ji37) : Int) false
   try go_wp2_with (first | ((with_reducible refine gate_store (t := 4) (p := 53) rfl ?_); refine store_event (t := 4) (p := 53) (v := ?vo_w68) (w1 := (w64.setCell ⟨go59, ((ji37) : Int).toNat, none⟩ (.bool false))) ?hg ?ho ?hn ?hr ?_; (case ho => rfl); (case hg => rfl); (case hn => rfl); (case hr => first | (go_simp; done) | (go_simp; rfl)); intro w68 hw; have hg : w64.grownBy w68 (some go59) := (by rw [hw]; exact HP67.2); have hp_ : Kd.R Kd.bool 4 w68 w.heap.size (fun _ => True) (.slice (some ⟨go59, 0, none⟩) y222.length co62) y226 := (by rw [hw, Ny226.out]; exact HP67.1); clear HP67; replace HO224 := mk_ (hp_); replace HB := mk_ ((by rw [hw]; exact below_set (HB.out) GB59.out : Below w.heap.size w w68)); (try clear BK210); clear hg hw hp_))
   (try subst hji40)
   (try subst hji37)
   go_roundg k1
   case measure => have := HK1.out; omega
   case rel => exact ⟨(y226), (wrap64 (x14_1 + 1)), sm_, H', ⟨by have := HK1.out; omega⟩, ⟨Kd.R_below HO224.out lt_⟩, ⟨at_ HB.out⟩⟩
  rw [if_neg c44] at H
  have c44b0 : (((rd_T47 l0 x14_1).f0) == 3) = false := beq_eq_false_iff_ne.mpr c44
  have c44b1 : (((rd_T47 l0 x14_1).f0) != 3) = true := bne_iff_ne.mpr c44
  by_cases c69 : ((rd_T47 l0 x14_1).f0) = 4
  rotate_left
  ·rw [if_neg c69] at H
   have c69b0 : (((rd_T47 l0 x14_1).f0) == 4) = false := beq_eq_false_iff_ne.mpr c69
   have c69b1 : (((rd_T47 l0 x14_1).f0) != 4) = true := bne_iff_ne.mpr c69
   by_cases c94 : (ji37) < (y222.length : Int)
   rotate_left
   ·rw [if_neg c94] at H
    exact absurd H (by simp)
   rw [if_pos c94] at H
   have c94b0 : decide ((ji37) < (y222.length : Int)) = true := decide_eq_true c94
   clear c94
   obtain ⟨y229, hy229⟩ : ∃ y_ : List Bool, y_ = (y222.set ((ji37) : Int).toNat ((rdOf false x5_1 (ji37)) == (rdOf false x5_1 (ji40)))) := ⟨_, rfl⟩
   first | (replace H := bn_ hy229 H; try dsimp only at H) | rw [← hy229] at H
   have Ny229 := mk_ hy229
   clear hy229
   have H' := mk_ H
   clear H
   have p209 : 0 ≤ (x14_1 : Int) := oa_
   have q209 : x14_1 < (l0.length : Int) := oa_
   obtain ⟨ad209, e209, hx209_0, hx209_1⟩ := at_T47 HR0.out x14_1 p209 q209
   cases e209
   replace hx209_0 := cel HB.out hx209_0
   replace hx209_1 := cel HB.out hx209_1
   replace p209 := eq_true p209
   replace q209 := eq_true q209
   try go_wp2_with (first | ((with_reducible refine gate_dst (N := 7) rfl ?_); refine bx_ 7 #[.int .i64 0, .int .i64 0] 47 ?_; intro gb210 hg w96 hbox hb; replace HO_5 := mk_ (Kd.R_below (Kd.R_below HO_5.out lt_) hb); have BK210 := mk_ (hbox); have GW210 := mk_ (gb_ hg HB.out); have GE210 := mk_ (gb_ hg HB.out); replace HB := mk_ (below_step (below_at HB.out) hb); clear hb hbox hg; have hcz97_0 := blk_cell BK210.out 0; have hcz97_1 := blk_cell BK210.out 1; have hfz97_0 := blk_frozen BK210.out 0; have hfz97_1 := blk_frozen BK210.out 1; obtain ⟨Ao98, co98, eo98⟩ := Kd.R_slice HO_5.out; subst eo98))
   have n0_ : Aside0 (Kd.R Kd.bool 4 ((w96.setCell ⟨gb210, 0, none⟩ (.int .i64 ((rd_T47 l0 x14_1).f0))).setCell ⟨gb210, 1, none⟩ (.int .i64 ((rd_T47 l0 x14_1).f1))) w.heap.size (fun _ => True) (.slice Ao98 x5_1.length co98) x5_1) := ⟨by (with_reducible repeat (first | apply Kd.R_alloc | apply Kd.R_drewN | apply Kd.R_drew)); exact Kd.R_mono (Kd.R_far (p := ⟨gb210, 1, none⟩) (Kd.R_far (p := ⟨gb210, 0, none⟩) (Kd.R_types HO_5.out BK210.out (by decide)) (fun _ hk => hk.2) (.int .i64 ((rd_T47 l0 x14_1).f0))) (fun _ hk => hk.2) (.int .i64 ((rd_T47 l0 x14_1).f1))) (fun _ hk => trivial)⟩
   have n1_ : Aside0 (((w96.setCell ⟨gb210, 0, none⟩ (.int .i64 ((rd_T47 l0 x14_1).f0))).setCell ⟨gb210, 1, none⟩ (.int .i64 ((rd_T47 l0 x14_1).f1))).heap[gb210]? = some (.cells #[.int .i64 ((rd_T47 l0 x14_1).f0), .int .i64 ((rd_T47 l0 x14_1).f1)] 47 (0, 0))) := ⟨by refine bs_ ?_; refine blk_put (cs := #[.int .i64 ((rd_T47 l0 x14_1).f0), .int .i64 0]) ?_ 1 _ rfl; refine bs_ ?_; refine blk_put (cs := #[.int .i64 0, .int .i64 0]) ?_ 0 _ rfl; refine bs_ ?_; exact BK210.out⟩
   have n2_ : Aside0 (Below w.heap.size w ((w96.setCell ⟨gb210, 0, none⟩ (.int .i64 ((rd_T47 l0 x14_1).f0))).setCell ⟨gb210, 1, none⟩ (.int .i64 ((rd_T47 l0 x14_1).f1)))) := ⟨at_ HB.out⟩
   (try clear HO_5)
   (try clear BK210)
   (try clear HB)
   generalize ((w96.setCell ⟨gb210, 0, none⟩ (.int .i64 ((rd_T47 l0 x14_1).f0))).setCell ⟨gb210, 1, none⟩ (.int .i64 ((rd_T47 l0 x14_1).f1))) = w99 at n0_ n1_ n2_ ⊢
   have HO_5 := n0_
   have BK210 := n1_
   have HB := n2_
   clear n0_ n1_ n2_
   replace HO_5 := mk_ (Kd.R_drew HO_5.out)
   replace BK210 := mk_ (blk_drew BK210.out)
   replace HB := mk_ (below_drew1 HB.out)
   have p220 : 0 ≤ ((ji37) : Int) := oa_
   have q220 : (ji37) < (x5_1.length : Int) := oa_
   obtain ⟨ad220, e220, hx220_0⟩ := Kd.at_bool (Kd.R_reads' HO_5.out).2.2 (ji37) p220 q220
   cases e220
   replace p220 := eq_true p220
   replace q220 := eq_true q220
   have p221 : 0 ≤ ((ji40) : Int) := oa_
   have q221 : (ji40) < (x5_1.length : Int) := oa_
   obtain ⟨ad221, e221, hx221_0⟩ := Kd.at_bool (Kd.R_reads' HO_5.out).2.2 (ji40) p221 q221
   obtain rfl : ad220 = ad221 := (by injection e221)
   replace p221 := eq_true p221
   replace q221 := eq_true q221
   refine start_ (n := 11) (S := fun w' => w'.cell? (ad220.add ((ji37)).toNat) = some (.bool (rdOf false x5_1 (ji37))) ∧ w'.cell? (ad220.add ((ji40)).toNat) = some (.bool (rdOf false x5_1 (ji40)))) (ds := []) #[false, false, false, false, false, false, false, false, false, false, false] (by kernel_rfl) rfl rfl ⟨hx220_0, hx221_0⟩ (fun hHeld => ?_); refine with_tabW impl_holds.tab7 impl_holds.bits7 (fun HT_ HW_ => ?_)
   generalize w99.drew = w100 at HO_5 BK210 HB hx220_0 hx221_0 hHeld ⊢
   refine pus_ 0 (some 23) (ao_ HT_) ?_
   refine pus_ 1 (some 24) (ao_ HT_) ?_
   refine pus_ 2 (some 25) (ao_ HT_) ?_
   refine pus_ 3 (some 26) (ao_ HT_) ?_
   refine pus_ 5 (some 28) (ao_ HT_) ?_
   refine pus_ 6 (some 29) (ao_ HT_) ?_
   refine pus_ 7 (some 30) (ao_ HT_) ?_
   refine tas_ 4 (some 27) (to_ HT_ HW_) hHeld ?_
   refine pus_ 9 (some 9) (ao_ HT_) ?_
   refine tas_ 8 (some 31) (to_ HT_ HW_) hHeld ?_
   refine pus_ 10 (some 10) (ao_ HT_) ?_
   refine done_ (done_of HT_.out (by kernel_rfl)) ?_
   have q101 : ((ji40) : Int) ≤ ((x5_1.length : Int) : Int) := oa_
   obtain ⟨i0101, hi0101, _, hsz101, _⟩ := info_parts info4
   have hcut101 := cut_to (P := Try.prog) 102 4 .i64 Try.underlying102 hi0101 (some ad220) x5_1.length co98 (ji40) (oa_) q101 (Kd.R_reads' HO_5.out).2.1
   have hr101 := Kd.R_take (m := ((ji40) : Int).toNat) HO_5.out (by omega)
   have hy101 : y222.length = ((ji40) : Int).toNat := (by rw [Ny222.out, List.length_take]; omega)
   rw [← Ny222.out] at hr101
   rw [← hy101] at hr101 hcut101
   clear hy101 hi0101 hsz101 HO_5
   have HO224 := mk_ hr101
   clear hr101
   replace q101 := eq_true q101
   have hcz102_0 := blk_cell BK210.out 0
   have hcz102_1 := blk_cell BK210.out 1
   have hfz102_0 := blk_frozen BK210.out 0
   have hfz102_1 := blk_frozen BK210.out 1
   have p95 : 0 ≤ ((ji37) : Int) := oa_
   have q95 : ((ji37) : Int) < ((y222.length : Int) : Int) := oa_
   obtain ⟨go95, co95, eo95, gb95, gl95, cl95, HG95⟩ := Kd.R_form HO224.out (by omega)
   (first | cases eo95 | (injection eo95 with ea_ en_ ec_; (first | subst ea_ | (injection ea_ with ea_; subst ea_)); subst ec_; clear en_))
   have GB95 := mk_ gb95
   have GG95 := mk_ HG95
   clear gb95 gl95 HG95
   (first | simp only [add_plain] at hx220_0 | skip)
   (first | simp only [add_plain] at hx221_0 | skip)
   obtain ⟨hx95_0, hf95_0⟩ := Kd.R_celln false HO224.out ((ji37) : Int) p95 q95
   replace p95 := eq_true p95
   replace q95 := eq_true q95
   obtain ⟨hy103_, hz103_⟩ := Kd.R_celln false HO224.out ((ji37) : Int) (oa_) (oa_)
   have HP103 := Kd.R_putg HO224.out ((ji37) : Int) ((rdOf false x5_1 (ji37)) == (rdOf false x5_1 (ji40)))
   try go_wp2_with (first | ((with_reducible refine gate_store (t := 4) (p := 43) rfl ?_); refine store_event (t := 4) (p := 43) (v := ?vo_w104) (w1 := (w100.setCell ⟨go95, ((ji37) : Int).toNat, none⟩ (.bool ((rdOf false x5_1 (ji37)) == (rdOf false x5_1 (ji40)))))) ?hg ?ho ?hn ?hr ?_; (case ho => rfl); (case hg => rfl); (case hn => rfl); (case hr => first | (go_simp; done) | (go_simp; rfl)); intro w104 hw; have hg : w100.grownBy w104 (some go95) := (by rw [hw]; exact HP103.2); have hp_ : Kd.R Kd.bool 4 w104 w.heap.size (fun _ => True) (.slice (some ⟨go95, 0, none⟩) y222.length co98) y229 := (by rw [hw, Ny229.out]; exact HP103.1); clear HP103; replace HO224 := mk_ (hp_); replace HB := mk_ ((by rw [hw]; exact below_set (HB.out) GB95.out : Below w.heap.size w w104)); (try clear BK210); clear hg hw hp_))
   (try subst hji40)
   (try subst hji37)
   go_roundg k1
   case measure => have := HK1.out; omega
   case rel => exact ⟨(y229), (wrap64 (x14_1 + 1)), sm_, H', ⟨by have := HK1.out; omega⟩, ⟨Kd.R_below HO224.out lt_⟩, ⟨at_ HB.out⟩⟩
  rw [if_pos c69] at H
  have c69b0 : (((rd_T47 l0 x14_1).f0) == 4) = true := beq_iff_eq.mpr c69
  have c69b1 : (((rd_T47 l0 x14_1).f0) != 4) = false := bne_eq_false_iff_eq.mpr c69
  clear c69
  obtain ⟨bq70, hbq70⟩ : ∃ b_ : Bool, b_ = (rdOf false x5_1 (ji37)) := ⟨_, rfl⟩
  replace H : (if bq70 = true then (if (ji37) < (y222.length : Int) then (impl_holds.l0 k1 a1 (y222.set ((ji37) : Int).toNat true) l0 (l0.length : Int) (wrap64 (x14_1 + 1))) else (none)) else (if (ji37) < (y222.length : Int) then (impl_holds.l0 k1 a1 (y222.set ((ji37) : Int).toNat (rdOf false x5_1 (ji40))) l0 (l0.length : Int) (wrap64 (x14_1 + 1))) else (none))) = some r := by rw [← hbq70] at H; exact H
  have Nbq70 := mk_ hbq70
  clear hbq70
  by_cases c71 : bq70 = true
  ·subst c71
   rw [if_pos rfl] at H
   by_cases c72 : (ji37) < (y222.length : Int)
   rotate_left
   ·rw [if_neg c72] at H
    exact absurd H (by simp)
   rw [if_pos c72] at H
   have c72b0 : decide ((ji37) < (y222.length : Int)) = true := decide_eq_true c72
   clear c72
   obtain ⟨y227, hy227⟩ : ∃ y_ : List Bool, y_ = (y222.set ((ji37) : Int).toNat true) := ⟨_, rfl⟩
   first | (replace H := bn_ hy227 H; try dsimp only at H) | rw [← hy227] at H
   have Ny227 := mk_ hy227
   clear hy227
   have H' := mk_ H
   clear H
   have p209 : 0 ≤ (x14_1 : Int) := oa_
   have q209 : x14_1 < (l0.length : Int) := oa_
   obtain ⟨ad209, e209, hx209_0, hx209_1⟩ := at_T47 HR0.out x14_1 p209 q209
   cases e209
   replace hx209_0 := cel HB.out hx209_0
   replace hx209_1 := cel HB.out hx209_1
   replace p209 := eq_true p209
   replace q209 := eq_true q209
   try go_wp2_with (first | ((with_reducible refine gate_dst (N := 7) rfl ?_); refine bx_ 7 #[.int .i64 0, .int .i64 0] 47 ?_; intro gb210 hg w74 hbox hb; replace HO_5 := mk_ (Kd.R_below (Kd.R_below HO_5.out lt_) hb); have BK210 := mk_ (hbox); have GW210 := mk_ (gb_ hg HB.out); have GE210 := mk_ (gb_ hg HB.out); replace HB := mk_ (below_step (below_at HB.out) hb); clear hb hbox hg; have hcz75_0 := blk_cell BK210.out 0; have hcz75_1 := blk_cell BK210.out 1; have hfz75_0 := blk_frozen BK210.out 0; have hfz75_1 := blk_frozen BK210.out 1; obtain ⟨Ao76, co76, eo76⟩ := Kd.R_slice HO_5.out; subst eo76))
   have n0_ : Aside0 (Kd.R Kd.bool 4 ((w74.setCell ⟨gb210, 0, none⟩ (.int .i64 ((rd_T47 l0 x14_1).f0))).setCell ⟨gb210, 1, none⟩ (.int .i64 ((rd_T47 l0 x14_1).f1))) w.heap.size (fun _ => True) (.slice Ao76 x5_1.length co76) x5_1) := ⟨by (with_reducible repeat (first | apply Kd.R_alloc | apply Kd.R_drewN | apply Kd.R_drew)); exact Kd.R_mono (Kd.R_far (p := ⟨gb210, 1, none⟩) (Kd.R_far (p := ⟨gb210, 0, none⟩) (Kd.R_types HO_5.out BK210.out (by decide)) (fun _ hk => hk.2) (.int .i64 ((rd_T47 l0 x14_1).f0))) (fun _ hk => hk.2) (.int .i64 ((rd_T47 l0 x14_1).f1))) (fun _ hk => trivial)⟩
   have n1_ : Aside0 (((w74.setCell ⟨gb210, 0, none⟩ (.int .i64 ((rd_T47 l0 x14_1).f0))).setCell ⟨gb210, 1, none⟩ (.int .i64 ((rd_T47 l0 x14_1).f1))).heap[gb210]? = some (.cells #[.int .i64 ((rd_T47 l0 x14_1).f0), .int .i64 ((rd_T47 l0 x14_1).f1)] 47 (0, 0))) := ⟨by refine bs_ ?_; refine blk_put (cs := #[.int .i64 ((rd_T47 l0 x14_1).f0), .int .i64 0]) ?_ 1 _ rfl; refine bs_ ?_; refine blk_put (cs := #[.int .i64 0, .int .i64 0]) ?_ 0 _ rfl; refine bs_ ?_; exact BK210.out⟩
   have n2_ : Aside0 (Below w.heap.size w ((w74.setCell ⟨gb210, 0, none⟩ (.int .i64 ((rd_T47 l0 x14_1).f0))).setCell ⟨gb210, 1, none⟩ (.int .i64 ((rd_T47 l0 x14_1).f1)))) := ⟨at_ HB.out⟩
   (try clear HO_5)
   (try clear BK210)
   (try clear HB)
   generalize ((w74.setCell ⟨gb210, 0, none⟩ (.int .i64 ((rd_T47 l0 x14_1).f0))).setCell ⟨gb210, 1, none⟩ (.int .i64 ((rd_T47 l0 x14_1).f1))) = w77 at n0_ n1_ n2_ ⊢
   have HO_5 := n0_
   have BK210 := n1_
   have HB := n2_
   clear n0_ n1_ n2_
   replace HO_5 := mk_ (Kd.R_drew HO_5.out)
   replace BK210 := mk_ (blk_drew BK210.out)
   replace HB := mk_ (below_drew1 HB.out)
   have p220 : 0 ≤ ((ji37) : Int) := oa_
   have q220 : (ji37) < (x5_1.length : Int) := oa_
   obtain ⟨ad220, e220, hx220_0⟩ := Kd.at_bool (Kd.R_reads' HO_5.out).2.2 (ji37) p220 q220
   (try rw [← Nbq70.out] at hx220_0)
   cases e220
   replace p220 := eq_true p220
   replace q220 := eq_true q220
   have p221 : 0 ≤ ((ji40) : Int) := oa_
   have q221 : (ji40) < (x5_1.length : Int) := oa_
   obtain ⟨ad221, e221, hx221_0⟩ := Kd.at_bool (Kd.R_reads' HO_5.out).2.2 (ji40) p221 q221
   (try rw [← Nbq70.out] at hx221_0)
   obtain rfl : ad220 = ad221 := (by injection e221)
   replace p221 := eq_true p221
   replace q221 := eq_true q221
   refine start_ (n := 11) (S := fun w' => w'.cell? (ad220.add ((ji37)).toNat) = some (.bool true) ∧ w'.cell? (ad220.add ((ji40)).toNat) = some (.bool (rdOf false x5_1 (ji40)))) (ds := []) #[false, false, false, false, false, false, false, false, false, false, false] (by kernel_rfl) rfl rfl ⟨hx220_0, hx221_0⟩ (fun hHeld => ?_); refine with_tabW impl_holds.tab7 impl_holds.bits7 (fun HT_ HW_ => ?_)
   generalize w77.drew = w78 at HO_5 BK210 HB hx220_0 hx221_0 hHeld ⊢
   refine pus_ 0 (some 23) (ao_ HT_) ?_
   refine pus_ 1 (some 24) (ao_ HT_) ?_
   refine pus_ 2 (some 25) (ao_ HT_) ?_
   refine pus_ 3 (some 26) (ao_ HT_) ?_
   refine pus_ 5 (some 28) (ao_ HT_) ?_
   refine pus_ 6 (some 29) (ao_ HT_) ?_
   refine pus_ 7 (some 30) (ao_ HT_) ?_
   refine tas_ 4 (some 27) (to_ HT_ HW_) hHeld ?_
   refine pus_ 9 (some 9) (ao_ HT_) ?_
   refine tas_ 8 (some 31) (to_ HT_ HW_) hHeld ?_
   refine pus_ 10 (some 10) (ao_ HT_) ?_
   refine done_ (done_of HT_.out (by kernel_rfl)) ?_
   have q79 : ((ji40) : Int) ≤ ((x5_1.length : Int) : Int) := oa_
   obtain ⟨i079, hi079, _, hsz79, _⟩ := info_parts info4
   have hcut79 := cut_to (P := Try.prog) 102 4 .i64 Try.underlying102 hi079 (some ad220) x5_1.length co76 (ji40) (oa_) q79 (Kd.R_reads' HO_5.out).2.1
   have hr79 := Kd.R_take (m := ((ji40) : Int).toNat) HO_5.out (by omega)
   have hy79 : y222.length = ((ji40) : Int).toNat := (by rw [Ny222.out, List.length_take]; omega)
   rw [← Ny222.out] at hr79
   rw [← hy79] at hr79 hcut79
   clear hy79 hi079 hsz79 HO_5
   have HO224 := mk_ hr79
   clear hr79
   replace q79 := eq_true q79
   have hcz80_0 := blk_cell BK210.out 0
   have hcz80_1 := blk_cell BK210.out 1
   have hfz80_0 := blk_frozen BK210.out 0
   have hfz80_1 := blk_frozen BK210.out 1
   have p73 : 0 ≤ ((ji37) : Int) := oa_
   have q73 : ((ji37) : Int) < ((y222.length : Int) : Int) := oa_
   obtain ⟨go73, co73, eo73, gb73, gl73, cl73, HG73⟩ := Kd.R_form HO224.out (by omega)
   (first | cases eo73 | (injection eo73 with ea_ en_ ec_; (first | subst ea_ | (injection ea_ with ea_; subst ea_)); subst ec_; clear en_))
   have GB73 := mk_ gb73
   have GG73 := mk_ HG73
   clear gb73 gl73 HG73
   (first | simp only [add_plain] at hx220_0 | skip)
   (first | simp only [add_plain] at hx221_0 | skip)
   obtain ⟨hx73_0, hf73_0⟩ := Kd.R_celln false HO224.out ((ji37) : Int) p73 q73
   replace p73 := eq_true p73
   replace q73 := eq_true q73
   obtain ⟨hy81_, hz81_⟩ := Kd.R_celln false HO224.out ((ji37) : Int) (oa_) (oa_)
   have HP81 := Kd.R_putg HO224.out ((ji37) : Int) true
   try go_wp2_with (first | ((with_reducible refine gate_store (t := 4) (p := 63) rfl ?_); refine store_event (t := 4) (p := 63) (v := ?vo_w82) (w1 := (w78.setCell ⟨go73, ((ji37) : Int).toNat, none⟩ (.bool true))) ?hg ?ho ?hn ?hr ?_; (case ho => rfl); (case hg => rfl); (case hn => rfl); (case hr => first | (go_simp; done) | (go_simp; rfl)); intro w82 hw; have hg : w78.grownBy w82 (some go73) := (by rw [hw]; exact HP81.2); have hp_ : Kd.R Kd.bool 4 w82 w.heap.size (fun _ => True) (.slice (some ⟨go73, 0, none⟩) y222.length co76) y227 := (by rw [hw, Ny227.out]; exact HP81.1); clear HP81; replace HO224 := mk_ (hp_); replace HB := mk_ ((by rw [hw]; exact below_set (HB.out) GB73.out : Below w.heap.size w w82)); (try clear BK210); clear hg hw hp_))
   (try subst hji40)
   (try subst hji37)
   go_roundg k1
   case measure => have := HK1.out; omega
   case rel => exact ⟨(y227), (wrap64 (x14_1 + 1)), sm_, H', ⟨by have := HK1.out; omega⟩, ⟨Kd.R_below HO224.out lt_⟩, ⟨at_ HB.out⟩⟩
  replace c71 := Bool.eq_false_iff.mpr c71
  subst c71
  rw [if_neg Bool.false_ne_true] at H
  by_cases c83 : (ji37) < (y222.length : Int)
  rotate_left
  ·rw [if_neg c83] at H
   exact absurd H (by simp)
  rw [if_pos c83] at H
  have c83b0 : decide ((ji37) < (y222.length : Int)) = true := decide_eq_true c83
  clear c83
  obtain ⟨y228, hy228⟩ : ∃ y_ : List Bool, y_ = (y222.set ((ji37) : Int).toNat (rdOf false x5_1 (ji40))) := ⟨_, rfl⟩
  first | (replace H := bn_ hy228 H; try dsimp only at H) | rw [← hy228] at H
  have Ny228 := mk_ hy228
  clear hy228
  have H' := mk_ H
  clear H
  have p209 : 0 ≤ (x14_1 : Int) := oa_
  have q209 : x14_1 < (l0.length : Int) := oa_
  obtain ⟨ad209, e209, hx209_0, hx209_1⟩ := at_T47 HR0.out x14_1 p209 q209
  cases e209
  replace hx209_0 := cel HB.out hx209_0
  replace hx209_1 := cel HB.out hx209_1
  replace p209 := eq_true p209
  replace q209 := eq_true q209
  try go_wp2_with (first | ((with_reducible refine gate_dst (N := 7) rfl ?_); refine bx_ 7 #[.int .i64 0, .int .i64 0] 47 ?_; intro gb210 hg w85 hbox hb; replace HO_5 := mk_ (Kd.R_below (Kd.R_below HO_5.out lt_) hb); have BK210 := mk_ (hbox); have GW210 := mk_ (gb_ hg HB.out); have GE210 := mk_ (gb_ hg HB.out); replace HB := mk_ (below_step (below_at HB.out) hb); clear hb hbox hg; have hcz86_0 := blk_cell BK210.out 0; have hcz86_1 := blk_cell BK210.out 1; have hfz86_0 := blk_frozen BK210.out 0; have hfz86_1 := blk_frozen BK210.out 1; obtain ⟨Ao87, co87, eo87⟩ := Kd.R_slice HO_5.out; subst eo87))
  have n0_ : Aside0 (Kd.R Kd.bool 4 ((w85.setCell ⟨gb210, 0, none⟩ (.int .i64 ((rd_T47 l0 x14_1).f0))).setCell ⟨gb210, 1, none⟩ (.int .i64 ((rd_T47 l0 x14_1).f1))) w.heap.size (fun _ => True) (.slice Ao87 x5_1.length co87) x5_1) := ⟨by (with_reducible repeat (first | apply Kd.R_alloc | apply Kd.R_drewN | apply Kd.R_drew)); exact Kd.R_mono (Kd.R_far (p := ⟨gb210, 1, none⟩) (Kd.R_far (p := ⟨gb210, 0, none⟩) (Kd.R_types HO_5.out BK210.out (by decide)) (fun _ hk => hk.2) (.int .i64 ((rd_T47 l0 x14_1).f0))) (fun _ hk => hk.2) (.int .i64 ((rd_T47 l0 x14_1).f1))) (fun _ hk => trivial)⟩
  have n1_ : Aside0 (((w85.setCell ⟨gb210, 0, none⟩ (.int .i64 ((rd_T47 l0 x14_1).f0))).setCell ⟨gb210, 1, none⟩ (.int .i64 ((rd_T47 l0 x14_1).f1))).heap[gb210]? = some (.cells #[.int .i64 ((rd_T47 l0 x14_1).f0), .int .i64 ((rd_T47 l0 x14_1).f1)] 47 (0, 0))) := ⟨by refine bs_ ?_; refine blk_put (cs := #[.int .i64 ((rd_T47 l0 x14_1).f0), .int .i64 0]) ?_ 1 _ rfl; refine bs_ ?_; refine blk_put (cs := #[.int .i64 0, .int .i64 0]) ?_ 0 _ rfl; refine bs_ ?_; exact BK210.out⟩
  have n2_ : Aside0 (Below w.heap.size w ((w85.setCell ⟨gb210, 0, none⟩ (.int .i64 ((rd_T47 l0 x14_1).f0))).setCell ⟨gb210, 1, none⟩ (.int .i64 ((rd_T47 l0 x14_1).f1)))) := ⟨at_ HB.out⟩
  (try clear HO_5)
  (try clear BK210)
  (try clear HB)
  generalize ((w85.setCell ⟨gb210, 0, none⟩ (.int .i64 ((rd_T47 l0 x14_1).f0))).setCell ⟨gb210, 1, none⟩ (.int .i64 ((rd_T47 l0 x14_1).f1))) = w88 at n0_ n1_ n2_ ⊢
  have HO_5 := n0_
  have BK210 := n1_
  have HB := n2_
  clear n0_ n1_ n2_
  replace HO_5 := mk_ (Kd.R_drew HO_5.out)
  replace BK210 := mk_ (blk_drew BK210.out)
  replace HB := mk_ (below_drew1 HB.out)
  have p220 : 0 ≤ ((ji37) : Int) := oa_
  have q220 : (ji37) < (x5_1.length : Int) := oa_
  obtain ⟨ad220, e220, hx220_0⟩ := Kd.at_bool (Kd.R_reads' HO_5.out).2.2 (ji37) p220 q220
  (try rw [← Nbq70.out] at hx220_0)
  cases e220
  replace p220 := eq_true p220
  replace q220 := eq_true q220
  have p221 : 0 ≤ ((ji40) : Int) := oa_
  have q221 : (ji40) < (x5_1.length : Int) := oa_
  obtain ⟨ad221, e221, hx221_0⟩ := Kd.at_bool (Kd.R_reads' HO_5.out).2.2 (ji40) p221 q221
  (try rw [← Nbq70.out] at hx221_0)
  obtain rfl : ad220 = ad221 := (by injection e221)
  replace p221 := eq_true p221
  replace q221 := eq_true q221
  refine start_ (n := 11) (S := fun w' => w'.cell? (ad220.add ((ji37)).toNat) = some (.bool false) ∧ w'.cell? (ad220.add ((ji40)).toNat) = some (.bool (rdOf false x5_1 (ji40)))) (ds := []) #[false, false, false, false, false, false, false, false, false, false, false] (by kernel_rfl) rfl rfl ⟨hx220_0, hx221_0⟩ (fun hHeld => ?_); refine with_tabW impl_holds.tab7 impl_holds.bits7 (fun HT_ HW_ => ?_)
  generalize w88.drew = w89 at HO_5 BK210 HB hx220_0 hx221_0 hHeld ⊢
  refine pus_ 0 (some 23) (ao_ HT_) ?_
  refine pus_ 1 (some 24) (ao_ HT_) ?_
  refine pus_ 2 (some 25) (ao_ HT_) ?_
  refine pus_ 3 (some 26) (ao_ HT_) ?_
  refine pus_ 5 (some 28) (ao_ HT_) ?_
  refine pus_ 6 (some 29) (ao_ HT_) ?_
  refine pus_ 7 (some 30) (ao_ HT_) ?_
  refine tas_ 4 (some 27) (to_ HT_ HW_) hHeld ?_
  refine pus_ 9 (some 9) (ao_ HT_) ?_
  refine tas_ 8 (some 31) (to_ HT_ HW_) hHeld ?_
  refine pus_ 10 (some 10) (ao_ HT_) ?_
  refine done_ (done_of HT_.out (by kernel_rfl)) ?_
  have q90 : ((ji40) : Int) ≤ ((x5_1.length : Int) : Int) := oa_
  obtain ⟨i090, hi090, _, hsz90, _⟩ := info_parts info4
  have hcut90 := cut_to (P := Try.prog) 102 4 .i64 Try.underlying102 hi090 (some ad220) x5_1.length co87 (ji40) (oa_) q90 (Kd.R_reads' HO_5.out).2.1
  have hr90 := Kd.R_take (m := ((ji40) : Int).toNat) HO_5.out (by omega)
  have hy90 : y222.length = ((ji40) : Int).toNat := (by rw [Ny222.out, List.length_take]; omega)
  rw [← Ny222.out] at hr90
  rw [← hy90] at hr90 hcut90
  clear hy90 hi090 hsz90 HO_5
  have HO224 := mk_ hr90
  clear hr90
  replace q90 := eq_true q90
  have hcz91_0 := blk_cell BK210.out 0
  have hcz91_1 := blk_cell BK210.out 1
  have hfz91_0 := blk_frozen BK210.out 0
  have hfz91_1 := blk_frozen BK210.out 1
  have p84 : 0 ≤ ((ji37) : Int) := oa_
  have q84 : ((ji37) : Int) < ((y222.length : Int) : Int) := oa_
  obtain ⟨go84, co84, eo84, gb84, gl84, cl84, HG84⟩ := Kd.R_form HO224.out (by omega)
  (first | cases eo84 | (injection eo84 with ea_ en_ ec_; (first | subst ea_ | (injection ea_ with ea_; subst ea_)); subst ec_; clear en_))
  have GB84 := mk_ gb84
  have GG84 := mk_ HG84
  clear gb84 gl84 HG84
  (first | simp only [add_plain] at hx220_0 | skip)
  (first | simp only [add_plain] at hx221_0 | skip)
  obtain ⟨hx84_0, hf84_0⟩ := Kd.R_celln false HO224.out ((ji37) : Int) p84 q84
  replace p84 := eq_true p84
  replace q84 := eq_true q84
  obtain ⟨hy92_, hz92_⟩ := Kd.R_celln false HO224.out ((ji37) : Int) (oa_) (oa_)
  have HP92 := Kd.R_putg HO224.out ((ji37) : Int) (rdOf false x5_1 (ji40))
  try go_wp2_with (first | ((with_reducible refine gate_store (t := 4) (p := 63) rfl ?_); refine store_event (t := 4) (p := 63) (v := ?vo_w93) (w1 := (w89.setCell ⟨go84, ((ji37) : Int).toNat, none⟩ (.bool (rdOf false x5_1 (ji40))))) ?hg ?ho ?hn ?hr ?_; (case ho => rfl); (case hg => rfl); (case hn => rfl); (case hr => first | (go_simp; done) | (go_simp; rfl)); intro w93 hw; have hg : w89.grownBy w93 (some go84) := (by rw [hw]; exact HP92.2); have hp_ : Kd.R Kd.bool 4 w93 w.heap.size (fun _ => True) (.slice (some ⟨go84, 0, none⟩) y222.length co87) y228 := (by rw [hw, Ny228.out]; exact HP92.1); clear HP92; replace HO224 := mk_ (hp_); replace HB := mk_ ((by rw [hw]; exact below_set (HB.out) GB84.out : Below w.heap.size w w93)); (try clear BK210); clear hg hw hp_))
  (try subst hji40)
  (try subst hji37)
  go_roundg k1
  case measure => have := HK1.out; omega
  case rel => exact ⟨(y228), (wrap64 (x14_1 + 1)), sm_, H', ⟨by have := HK1.out; omega⟩, ⟨Kd.R_below HO224.out lt_⟩, ⟨at_ HB.out⟩⟩
end Go.Proofs.Ytcaogllnbpmcgaa.P

/- Go's functions come to just the answers of the Lean functions told here. -/
import Derived.Test.YtcaogllnbpmcgaaDoorPx0
namespace Go.Proofs.YtcaogllnbpmcgaaDoor.P
open Go.RowKit Go.Proofs.YtcaogllnbpmcgaaDoorW.PrintWords Go.Proofs.YtcaogllnbpmcgaaDoorW.PrintLast Go.Proofs.YtcaogllnbpmcgaaDoorW.PrintMore
attribute [local go_sem] max2_int min2_int max_two min_two max_three min_three max_four min_four
set_option linter.unusedVariables false
set_option linter.unusedSimpArgs false

/-! ### spec_l11Once: function 61 -/
mutual
def spec_l11Once.l0 : Nat → List Bool → Int → Int → List (S68) → Option (Bool)
 | 0, _, _, _, _ => none
 | k + 1, x3, x4, x246000, x246001 => if x4 < (x246001.length : Int) then (spec_l11Once.l1 k x3 x4 0 x246000 x246001) else (some true)
def spec_l11Once.l1 : Nat → List Bool → Int → Int → Int → List (S68) → Option (Bool)
 | 0, _, _, _, _, _ => none
 | k + 1, x3, x4, x5, x246000, x246001 => if x5 < 2 then (if 0 ≤ x4 then (if x4 < (x246001.length : Int) then (if x5 = 1 then (spec_l11Once.j2 k x3 x4 x5 ((rd_T68 x246001 x4).f2) x246000 x246001) else (spec_l11Once.j2 k x3 x4 x5 ((rd_T68 x246001 x4).f1) x246000 x246001)) else (none)) else (none)) else (spec_l11Once.l0 k x3 (wrap64 (x4 + 1)) x246000 x246001)
def spec_l11Once.j2 : Nat → List Bool → Int → Int → Int → Int → List (S68) → Option (Bool)
 | 0, _, _, _, _, _, _ => none
 | k + 1, x3, x4, x5, x6, x246000, x246001 => if x6 < 0 then (spec_l11Once.l1 k x3 x4 (wrap64 (x5 + 1)) x246000 x246001) else (if x6 ≥ (x246001.length : Int) then (some false) else (if 0 ≤ x6 then (if x6 < (x3.length : Int) then (if rdOf false x3 x6 = true then (some false) else (spec_l11Once.l1 k (x3.set (x6 : Int).toNat true) x4 (wrap64 (x5 + 1)) x246000 x246001)) else (none)) else (none)))
end
def spec_l11Once.f (k : Nat) (a0_0 : Int) (l0_1 : List (S68)) : Option (Bool) := if 0 ≤ (l0_1.length : Int) then (if ((l0_1.length : Int) : Int).toNat ≤ 281474976710656 then (spec_l11Once.l0 k (List.replicate ((l0_1.length : Int) : Int).toNat false) 0 a0_0 l0_1) else (none)) else (none)
theorem spec_l11Once.mono_l : ∀ k, (∀ y0 y1 y2 y3, LeO (spec_l11Once.l0 k y0 y1 y2 y3) (spec_l11Once.l0 (k + 1) y0 y1 y2 y3)) ∧ (∀ y0 y1 y2 y3 y4, LeO (spec_l11Once.l1 k y0 y1 y2 y3 y4) (spec_l11Once.l1 (k + 1) y0 y1 y2 y3 y4)) ∧ (∀ y0 y1 y2 y3 y4 y5, LeO (spec_l11Once.j2 k y0 y1 y2 y3 y4 y5) (spec_l11Once.j2 (k + 1) y0 y1 y2 y3 y4 y5))
 | 0 => ⟨fun _ _ _ _ r h => by simp [spec_l11Once.l0] at h, fun _ _ _ _ _ r h => by simp [spec_l11Once.l1] at h, fun _ _ _ _ _ _ r h => by simp [spec_l11Once.j2] at h⟩
 | k + 1 => by
  obtain ⟨ih0, ih1, ih2⟩ := spec_l11Once.mono_l k
  refine ⟨?_, ?_, ?_⟩
  ·intro y0 y1 y2 y3
   unfold spec_l11Once.l0
   repeat' first
   | (with_reducible exact ih0 _ _ _ _)
   | (with_reducible exact ih1 _ _ _ _ _)
   | (with_reducible exact ih2 _ _ _ _ _ _)
   | (with_reducible exact LeO.refl _)
   | (with_reducible exact LeO.none _)
   | (with_reducible refine LeO.ite ?_ ?_)
   | (with_reducible refine LeO.bind ?_ (fun _ => ?_))
  ·intro y0 y1 y2 y3 y4
   unfold spec_l11Once.l1
   repeat' first
   | (with_reducible exact ih0 _ _ _ _)
   | (with_reducible exact ih1 _ _ _ _ _)
   | (with_reducible exact ih2 _ _ _ _ _ _)
   | (with_reducible exact LeO.refl _)
   | (with_reducible exact LeO.none _)
   | (with_reducible refine LeO.ite ?_ ?_)
   | (with_reducible refine LeO.bind ?_ (fun _ => ?_))
  ·intro y0 y1 y2 y3 y4 y5
   unfold spec_l11Once.j2
   repeat' first
   | (with_reducible exact ih0 _ _ _ _)
   | (with_reducible exact ih1 _ _ _ _ _)
   | (with_reducible exact ih2 _ _ _ _ _ _)
   | (with_reducible exact LeO.refl _)
   | (with_reducible exact LeO.none _)
   | (with_reducible refine LeO.ite ?_ ?_)
   | (with_reducible refine LeO.bind ?_ (fun _ => ?_))
theorem spec_l11Once.mono : ∀ a0 a1 k, LeO (spec_l11Once.f k a0 a1) (spec_l11Once.f (k + 1) a0 a1) := by
 intro a0 a1 k
 obtain ⟨ih0, ih1, ih2⟩ := spec_l11Once.mono_l k
 unfold spec_l11Once.f
 repeat' first
   | (with_reducible exact ih0 _ _ _ _)
   | (with_reducible exact ih1 _ _ _ _ _)
   | (with_reducible exact ih2 _ _ _ _ _ _)
   | (with_reducible exact LeO.refl _)
   | (with_reducible exact LeO.none _)
   | (with_reducible refine LeO.ite ?_ ?_)
   | (with_reducible refine LeO.bind ?_ (fun _ => ?_))
set_option maxHeartbeats 8000000 in
set_option maxRecDepth 100000 in
theorem spec_l11Once.calls (k : Nat) (a0_0 : Int) (A0_1 : Option Addr) (c0_1 : Nat) (l0_1 : List (S68)) (r : Bool) (w : World) (hr0_1 : Kd.C k68 w A0_1 l0_1.length l0_1) (hc0_1 : l0_1.length ≤ c0_1) (h : spec_l11Once.f k a0_0 l0_1 = some r) :
  Calls Tryd.prog 61 #[.agg #[.int .i64 a0_0, .slice A0_1 l0_1.length c0_1]] w fun e w' => e = .returned (.bool r) ∧ Below w.heap.size w w' := by
 have hu27 := Tryd.underlying27
 have HR0_1 := mk_ hr0_1
 have HC0_1 := mk_ hc0_1
 clear hr0_1 hc0_1
 have HB := mk_ (Below.refl w.heap.size w)
 unfold spec_l11Once.f at h
 have H := h
 clear h
 by_cases c2 : 0 ≤ (l0_1.length : Int)
 rotate_left
 ·rw [if_neg c2] at H
  exact absurd H (by simp)
 rw [if_pos c2] at H
 have c2b0 := eq_true c2
 have c2b1 : decide (0 ≤ (l0_1.length : Int)) = true := decide_eq_true c2
 clear c2
 by_cases c3 : ((l0_1.length : Int) : Int).toNat ≤ 281474976710656
 rotate_left
 ·rw [if_neg c3] at H
  exact absurd H (by simp)
 rw [if_pos c3] at H
 have c3b0 := eq_true c3
 have c3b1 : decide (((l0_1.length : Int) : Int).toNat ≤ 281474976710656) = true := decide_eq_true c3
 clear c3
 obtain ⟨y246, hy246⟩ : ∃ y_ : List Bool, y_ = (List.replicate ((l0_1.length : Int) : Int).toNat false) := ⟨_, rfl⟩
 replace H : (spec_l11Once.l0 k y246 0 a0_0 l0_1) = some r := by first | (rw [hy246]; exact H) | exact H
 have Ny246 := mk_ hy246
 clear hy246
 have H' := mk_ H
 clear H
 go_enter Tryd.func61, Tryd.ntmps61
 go_wp2_with (first | ((with_reducible refine gate_dst (N := 1) rfl ?_); refine box_event ?hg (N := 1) ?hd (cs := #[.int .i64 a0_0, .slice A0_1 l0_1.length c0_1]) (t := 27) ?hr ?_; (case hd => rfl); (case hg => rfl); (case hr => first | (go_simp; done) | (go_simp; rfl)); intro gb245 hg w4 hbox hb; have BK245 := mk_ (hbox); have GW245 := mk_ (gb_ hg HB.out); have GE245 := mk_ (gb_ hg HB.out); replace HB := mk_ (below_step (below_at HB.out) hb); clear hb hbox hg; have hcz5_0 := blk_cell BK245.out 0; have hcz5_1 := blk_cell BK245.out 1; have hfz5_0 := blk_frozen BK245.out 0; have hfz5_1 := blk_frozen BK245.out 1) | ((with_reducible refine gate_dst (N := 10) rfl ?_); refine Kd.R_make Kd.bool _ 4 rfl (N := 10) rfl 63 _ _ rfl (l0_1.length : Int) rfl rfl Tryd.underlying63 (.bool false) 1 info4 rfl (by decide) (by omega) false (ok := fun _ => True) (okp := fun _ => True) rfl (fun _ hk => hk) trivial (oa_) (Nat.le_trans (Nat.mul_le_mul_right _ (oa_ : (l0_1.length : Int).toNat ≤ 281474976710656)) (by omega)) (Below.refl _ _) (Nat.le_refl _) ?_; intro v247 w6 ho7 hb hg_ hnew_; clear hg_ hnew_; (first | rw [← Ny246.out] at ho7 | (simp only [Int.reduceToNat] at ho7; rw [← Ny246.out] at ho7)); have HO248 := mk_ (Kd.R_lower ho7 (below_size (at_ HB.out))); replace BK245 := mk_ (blk_at BK245.out hb); replace HB := mk_ (below_step (at_ HB.out) hb); clear hb ho7))
 go_loopg [4] k (fun kq v4 w' => ∃ (x3_1 : List Bool) (x4_1 : Int), v4 = .int .i64 x4_1 ∧ Aside0 (spec_l11Once.l0 kq x3_1 x4_1 a0_0 l0_1 = some r) ∧ Aside0 (kq ≤ k) ∧ Aside0 (Kd.R Kd.bool 4 w' w.heap.size (fun _ => True) v247 x3_1) ∧ Aside0 (w'.heap[gb245]? = some (.cells #[.int .i64 a0_0, (.slice A0_1 l0_1.length c0_1)] 27 (0, 0))) ∧ Aside0 (Below w.heap.size w w'))
 case atStart => exact ⟨(y246), (0), (by first | rfl | (simp; done) | (simp [*]; done)), H', ⟨Nat.le_refl _⟩, ⟨Kd.R_below HO248.out lt_⟩, ⟨by (with_reducible repeat (first | refine blk_drewN ?_ _ | refine blk_drew ?_ | refine blk_alloc ?_ _)); exact BK245.out⟩, ⟨at_ HB.out⟩⟩
 clear H'
 try clear c2
 try clear c2b0
 try clear c2b1
 try clear p2
 try clear c3
 try clear c3b0
 try clear c3b1
 try clear c6
 try clear hcz5_0
 try clear hcz5_1
 try clear hfz5_0
 try clear hfz5_1
 obtain ⟨x3_1, x4_1, rfl, HA, HK1, HO_3, BK245, HB⟩ := hrel
 cases gk with
 | zero => exact absurd HA.out (by simp [spec_l11Once.l0])
 | succ k1 =>
  have H := HA.out
  clear HA
  simp only [spec_l11Once.l0] at H
  by_cases c8 : x4_1 < (l0_1.length : Int)
  rotate_left
  ·rw [if_neg c8] at H
   have c8b0 : decide (x4_1 < (l0_1.length : Int)) = false := decide_eq_false c8
   clear c8
   obtain rfl := Option.some.inj H
   have hcz31_0 : wr.cell? ⟨gb245, 0, none⟩ = some (.int .i64 a0_0) := (blk_cell BK245.out 0).trans rfl
   have hcz31_1 : wr.cell? ⟨gb245, 1, none⟩ = some (.slice A0_1 l0_1.length c0_1) := (blk_cell BK245.out 1).trans rfl
   have hfz31_0 := blk_frozen BK245.out 0
   have hfz31_1 := blk_frozen BK245.out 1
   go_wp2
   go_ret
   exact ⟨er_, at_ HB.out⟩
  rw [if_pos c8] at H
  have c8b0 : decide (x4_1 < (l0_1.length : Int)) = true := decide_eq_true c8
  clear c8
  have H' := mk_ H
  clear H
  have hcz9_0 : wr.cell? ⟨gb245, 0, none⟩ = some (.int .i64 a0_0) := (blk_cell BK245.out 0).trans rfl
  have hcz9_1 : wr.cell? ⟨gb245, 1, none⟩ = some (.slice A0_1 l0_1.length c0_1) := (blk_cell BK245.out 1).trans rfl
  have hfz9_0 := blk_frozen BK245.out 0
  have hfz9_1 := blk_frozen BK245.out 1
  go_wp2
  go_loopg [5] k1 (fun kq v5 w' => ∃ (x3_2 : List Bool) (x5_2 : Int), v5 = .int .i64 x5_2 ∧ Aside0 (spec_l11Once.l1 kq x3_2 x4_1 x5_2 a0_0 l0_1 = some r) ∧ Aside0 (kq ≤ k1) ∧ Aside0 (Kd.R Kd.bool 4 w' w.heap.size (fun _ => True) v247 x3_2) ∧ Aside0 (w'.heap[gb245]? = some (.cells #[.int .i64 a0_0, (.slice A0_1 l0_1.length c0_1)] 27 (0, 0))) ∧ Aside0 (Below w.heap.size w w'))
  case atStart => exact ⟨(x3_1), (0), (by first | rfl | (simp; done) | (simp [*]; done)), H', ⟨Nat.le_refl _⟩, ⟨Kd.R_below HO_3.out lt_⟩, ⟨by (with_reducible repeat (first | refine blk_drewN ?_ _ | refine blk_drew ?_ | refine blk_alloc ?_ _)); exact BK245.out⟩, ⟨at_ HB.out⟩⟩
  clear H'
  try clear c2
  try clear c2b0
  try clear c2b1
  try clear p2
  try clear c3
  try clear c3b0
  try clear c3b1
  try clear c6
  try clear c8
  try clear c8b0
  try clear hcz5_0
  try clear hcz5_1
  try clear hcz9_0
  try clear hcz9_1
  try clear hfz5_0
  try clear hfz5_1
  try clear hfz9_0
  try clear hfz9_1
  try clear p2
  obtain ⟨x3_2, x5_2, rfl, HA, HK2, HO_3, BK245, HB⟩ := hrel
  cases gk with
  | zero => exact absurd HA.out (by simp [spec_l11Once.l1])
  | succ k2 =>
   have H := HA.out
   clear HA
   simp only [spec_l11Once.l1] at H
   by_cases c10 : x5_2 < 2
   rotate_left
   ·rw [if_neg c10] at H
    have c10b0 : decide (x5_2 < 2) = false := decide_eq_false c10
    clear c10
    have H' := mk_ H
    clear H
    go_wp2
    go_roundg k2
    case measure => have := HK1.out; have := HK2.out; omega
    case rel => exact ⟨(x3_2), (wrap64 (x4_1 + 1)), (by first | rfl | (simp; done) | (simp [*]; done)), H', ⟨by have := HK1.out; have := HK2.out; omega⟩, ⟨Kd.R_below HO_3.out lt_⟩, ⟨by (with_reducible repeat (first | refine blk_drewN ?_ _ | refine blk_drew ?_ | refine blk_alloc ?_ _)); exact BK245.out⟩, ⟨at_ HB.out⟩⟩
   rw [if_pos c10] at H
   have c10b0 : decide (x5_2 < 2) = true := decide_eq_true c10
   clear c10
   by_cases c11 : 0 ≤ x4_1
   rotate_left
   ·rw [if_neg c11] at H
    exact absurd H (by simp)
   rw [if_pos c11] at H
   have c11b0 : decide (0 ≤ x4_1) = true := decide_eq_true c11
   clear c11
   by_cases c12 : x4_1 < (l0_1.length : Int)
   rotate_left
   ·rw [if_neg c12] at H
    exact absurd H (by simp)
   rw [if_pos c12] at H
   have c12b0 : decide (x4_1 < (l0_1.length : Int)) = true := decide_eq_true c12
   clear c12
   have HC13 := mk_ H
   clear H
   have hcz14_0 : wr.cell? ⟨gb245, 0, none⟩ = some (.int .i64 a0_0) := (blk_cell BK245.out 0).trans rfl
   have hcz14_1 : wr.cell? ⟨gb245, 1, none⟩ = some (.slice A0_1 l0_1.length c0_1) := (blk_cell BK245.out 1).trans rfl
   have hfz14_0 := blk_frozen BK245.out 0
   have hfz14_1 := blk_frozen BK245.out 1
   have p249 : 0 ≤ (x4_1 : Int) := oa_
   have q249 : x4_1 < (l0_1.length : Int) := oa_
   obtain ⟨ad249, e249, hx249_0, hx249_1, hx249_2⟩ := at_T68 HR0_1.out x4_1 p249 q249
   cases e249
   replace hx249_0 := cel HB.out hx249_0
   replace hx249_1 := cel HB.out hx249_1
   replace hx249_2 := cel HB.out hx249_2
   replace p249 := eq_true p249
   replace q249 := eq_true q249
   go_upto_if 29 with (fail)
   go_cut [6] (fun v6 wc => ∃ (kq : Nat) (x6_12 : Int), v6 = .int .i64 x6_12 ∧ Aside0 (spec_l11Once.j2 kq x3_2 x4_1 x5_2 x6_12 a0_0 l0_1 = some r) ∧ Aside0 (kq ≤ k2) ∧ Aside0 (Kd.R Kd.bool 4 wc w.heap.size (fun _ => True) v247 x3_2) ∧ Aside0 (wc.heap[gb245]? = some (.cells #[.int .i64 a0_0, (.slice (some ad249) l0_1.length c0_1)] 27 (0, 0))) ∧ Aside0 (Below w.heap.size w wc))
   case first =>
    have H := HC13.out
    clear HC13
    by_cases c15 : x5_2 = 1
    rotate_left
    ·rw [if_neg c15] at H
     have c15b0 : (x5_2 == 1) = false := beq_eq_false_iff_ne.mpr c15
     have c15b1 : (x5_2 != 1) = true := bne_iff_ne.mpr c15
     (first | rw [c15b0] | (simp only [i64_w, i32_w]; rw [c15b0]) | skip)
     have H' := mk_ H
     clear H
     go_wp2
     go_meet
     case rel => exact ⟨_, ((rd_T68 l0_1 x4_1).f1), (by first | rfl | (simp; done) | (simp [*]; done)), H', ⟨by have := HK1.out; have := HK2.out; first | omega | exact Nat.le_refl _⟩, ⟨Kd.R_below HO_3.out lt_⟩, ⟨by (with_reducible repeat (first | refine blk_drewN ?_ _ | refine blk_drew ?_ | refine blk_alloc ?_ _)); exact BK245.out⟩, ⟨at_ HB.out⟩⟩
    rw [if_pos c15] at H
    have c15b0 : (x5_2 == 1) = true := beq_iff_eq.mpr c15
    have c15b1 : (x5_2 != 1) = false := bne_eq_false_iff_eq.mpr c15
    clear c15
    (first | rw [c15b0] | (simp only [i64_w, i32_w]; rw [c15b0]) | skip)
    have H' := mk_ H
    clear H
    have hcz16_0 : wr.cell? ⟨gb245, 0, none⟩ = some (.int .i64 a0_0) := (blk_cell BK245.out 0).trans rfl
    have hcz16_1 : wr.cell? ⟨gb245, 1, none⟩ = some (.slice (some ad249) l0_1.length c0_1) := (blk_cell BK245.out 1).trans rfl
    have hfz16_0 := blk_frozen BK245.out 0
    have hfz16_1 := blk_frozen BK245.out 1
    have p250 : 0 ≤ (x4_1 : Int) := oa_
    have q250 : x4_1 < (l0_1.length : Int) := oa_
    obtain ⟨ad250, e250, hx250_0, hx250_1, hx250_2⟩ := at_T68 HR0_1.out x4_1 p250 q250
    obtain rfl : ad249 = ad250 := (by injection e250)
    replace hx250_0 := cel HB.out hx250_0
    replace hx250_1 := cel HB.out hx250_1
    replace hx250_2 := cel HB.out hx250_2
    replace p250 := eq_true p250
    replace q250 := eq_true q250
    go_wp2
    go_meet
    case rel => exact ⟨_, ((rd_T68 l0_1 x4_1).f2), (by first | rfl | (simp; done) | (simp [*]; done)), H', ⟨by have := HK1.out; have := HK2.out; first | omega | exact Nat.le_refl _⟩, ⟨Kd.R_below HO_3.out lt_⟩, ⟨by (with_reducible repeat (first | refine blk_drewN ?_ _ | refine blk_drew ?_ | refine blk_alloc ?_ _)); exact BK245.out⟩, ⟨at_ HB.out⟩⟩
   clear HC13
   try clear c1
   try clear c2
   try clear c2b0
   try clear c2b1
   try clear p2
   try clear q2
   try clear hx2
   try clear c3
   try clear c3b0
   try clear c3b1
   try clear c6
   try clear c8
   try clear c8b0
   try clear c10
   try clear c10b0
   try clear c11
   try clear c11b0
   try clear c12
   try clear c12b0
   try clear c15
   try clear c15b0
   try clear c15b1
   try clear hcz14_0
   try clear hcz14_1
   try clear hcz16_0
   try clear hcz16_1
   try clear hcz5_0
   try clear hcz5_1
   try clear hcz9_0
   try clear hcz9_1
   try clear hfz14_0
   try clear hfz14_1
   try clear hfz16_0
   try clear hfz16_1
   try clear hfz5_0
   try clear hfz5_1
   try clear hfz9_0
   try clear hfz9_1
   try clear hx249_0
   try clear hx249_1
   try clear hx249_2
   try clear hx250_0
   try clear hx250_1
   try clear hx250_2
   try clear p2
   try clear p249
   try clear p250
   try clear q249
   try clear q250
   obtain ⟨kq, x6_12, rfl, HA, HJ12, HO_3, BK245, HB⟩ := hcut
   cases kq with
   | zero => exact absurd HA.out (by simp [spec_l11Once.j2])
   | succ kj12 =>
    have H := HA.out
    clear HA
    simp only [spec_l11Once.j2] at H
    by_cases c17 : x6_12 < 0
    ·rw [if_pos c17] at H
     have c17b0 : decide (x6_12 < 0) = true := decide_eq_true c17
     clear c17
     have H' := mk_ H
     clear H
     go_wp2
     go_roundg kj12
     case measure => have := HK1.out; have := HK2.out; have := HJ12.out; omega
     case rel => exact ⟨(x3_2), (wrap64 (x5_2 + 1)), (by first | rfl | (simp; done) | (simp [*]; done)), H', ⟨by have := HK1.out; have := HK2.out; have := HJ12.out; omega⟩, ⟨Kd.R_below HO_3.out lt_⟩, ⟨by (with_reducible repeat (first | refine blk_drewN ?_ _ | refine blk_drew ?_ | refine blk_alloc ?_ _)); exact BK245.out⟩, ⟨at_ HB.out⟩⟩
    rw [if_neg c17] at H
    have c17b0 : decide (x6_12 < 0) = false := decide_eq_false c17
    clear c17
    by_cases c18 : x6_12 ≥ (l0_1.length : Int)
    ·rw [if_pos c18] at H
     have c18b0 : decide ((l0_1.length : Int) ≤ x6_12) = true := decide_eq_true c18
     clear c18
     obtain rfl := Option.some.inj H
     have hcz19_0 : wc.cell? ⟨gb245, 0, none⟩ = some (.int .i64 a0_0) := (blk_cell BK245.out 0).trans rfl
     have hcz19_1 : wc.cell? ⟨gb245, 1, none⟩ = some (.slice (some ad249) l0_1.length c0_1) := (blk_cell BK245.out 1).trans rfl
     have hfz19_0 := blk_frozen BK245.out 0
     have hfz19_1 := blk_frozen BK245.out 1
     go_wp2
     go_ret
     exact ⟨er_, at_ HB.out⟩
    rw [if_neg c18] at H
    have c18b0 : decide ((l0_1.length : Int) ≤ x6_12) = false := decide_eq_false c18
    clear c18
    by_cases c20 : 0 ≤ x6_12
    rotate_left
    ·rw [if_neg c20] at H
     exact absurd H (by simp)
    rw [if_pos c20] at H
    have c20b0 : decide (0 ≤ x6_12) = true := decide_eq_true c20
    clear c20
    by_cases c21 : x6_12 < (x3_2.length : Int)
    rotate_left
    ·rw [if_neg c21] at H
     exact absurd H (by simp)
    rw [if_pos c21] at H
    have c21b0 : decide (x6_12 < (x3_2.length : Int)) = true := decide_eq_true c21
    clear c21
    obtain ⟨bq22, hbq22⟩ : ∃ b_ : Bool, b_ = (rdOf false x3_2 x6_12) := ⟨_, rfl⟩
    replace H : (if bq22 = true then (some false) else (spec_l11Once.l1 kj12 (x3_2.set (x6_12 : Int).toNat true) x4_1 (wrap64 (x5_2 + 1)) a0_0 l0_1)) = some r := by rw [← hbq22] at H; exact H
    have Nbq22 := mk_ hbq22
    clear hbq22
    by_cases c23 : bq22 = true
    ·subst c23
     rw [if_pos rfl] at H
     obtain rfl := Option.some.inj H
     have hcz24_0 : wc.cell? ⟨gb245, 0, none⟩ = some (.int .i64 a0_0) := (blk_cell BK245.out 0).trans rfl
     have hcz24_1 : wc.cell? ⟨gb245, 1, none⟩ = some (.slice (some ad249) l0_1.length c0_1) := (blk_cell BK245.out 1).trans rfl
     have hfz24_0 := blk_frozen BK245.out 0
     have hfz24_1 := blk_frozen BK245.out 1
     obtain ⟨Ao25, co25, eo25⟩ := Kd.R_slice HO_3.out
     subst eo25
     have p251 : 0 ≤ (x6_12 : Int) := oa_
     have q251 : x6_12 < (x3_2.length : Int) := oa_
     obtain ⟨ad251, e251, hx251_0⟩ := Kd.at_bool (Kd.R_reads' HO_3.out).2.2 x6_12 p251 q251
     (try rw [← Nbq22.out] at hx251_0)
     cases e251
     replace p251 := eq_true p251
     replace q251 := eq_true q251
     go_wp2
     go_ret
     exact ⟨er_, at_ HB.out⟩
    replace c23 := Bool.eq_false_iff.mpr c23
    subst c23
    rw [if_neg (show ¬ (false = true) by decide)] at H
    obtain ⟨y252, hy252⟩ : ∃ y_ : List Bool, y_ = (x3_2.set (x6_12 : Int).toNat true) := ⟨_, rfl⟩
    replace H : (spec_l11Once.l1 kj12 y252 x4_1 (wrap64 (x5_2 + 1)) a0_0 l0_1) = some r := by first | (rw [hy252]; exact H) | exact H
    have Ny252 := mk_ hy252
    clear hy252
    have H' := mk_ H
    clear H
    have hcz27_0 : wc.cell? ⟨gb245, 0, none⟩ = some (.int .i64 a0_0) := (blk_cell BK245.out 0).trans rfl
    have hcz27_1 : wc.cell? ⟨gb245, 1, none⟩ = some (.slice (some ad249) l0_1.length c0_1) := (blk_cell BK245.out 1).trans rfl
    have hfz27_0 := blk_frozen BK245.out 0
    have hfz27_1 := blk_frozen BK245.out 1
    obtain ⟨Ao28, co28, eo28⟩ := Kd.R_slice HO_3.out
    subst eo28
    have p251 : 0 ≤ (x6_12 : Int) := oa_
    have q251 : x6_12 < (x3_2.length : Int) := oa_
    obtain ⟨ad251, e251, hx251_0⟩ := Kd.at_bool (Kd.R_reads' HO_3.out).2.2 x6_12 p251 q251
    (try rw [← Nbq22.out] at hx251_0)
    cases e251
    replace p251 := eq_true p251
    replace q251 := eq_true q251
    have p26 : 0 ≤ (x6_12 : Int) := oa_
    have q26 : (x6_12 : Int) < ((x3_2.length : Int) : Int) := oa_
    obtain ⟨go26, co26, eo26, gb26, gl26, cl26, HG26⟩ := Kd.R_form HO_3.out (by omega)
    (first | cases eo26 | (injection eo26 with ea_ en_ ec_; (first | subst ea_ | (injection ea_ with ea_; subst ea_)); subst ec_; clear en_))
    have GB26 := mk_ gb26
    have GG26 := mk_ HG26
    clear gb26 gl26 HG26
    (first | simp only [add_plain] at hx251_0 | skip)
    obtain ⟨hx26_0, hf26_0⟩ := Kd.R_celln false HO_3.out (x6_12 : Int) p26 q26
    replace p26 := eq_true p26
    replace q26 := eq_true q26
    have HP29 := Kd.R_putg HO_3.out (x6_12 : Int) true
    go_wp2_with (first | ((with_reducible refine gate_store (t := 4) (p := 51) rfl ?_); refine store_event (t := 4) (p := 51) (v := ?vo_w30) (w1 := (wc.setCell ⟨go26, (x6_12 : Int).toNat, none⟩ (.bool true))) ?hg ?ho ?hn ?hr ?_; (case ho => rfl); (case hg => rfl); (case hn => rfl); (case hr => first | (go_simp; done) | (go_simp; rfl)); intro w30 hw; have hg : wc.grownBy w30 (some go26) := (by rw [hw]; exact HP29.2); have hp_ : Kd.R Kd.bool 4 w30 w.heap.size (fun _ => True) (.slice (some ⟨go26, 0, none⟩) x3_2.length co28) y252 := (by rw [hw, Ny252.out]; exact HP29.1); clear HP29; replace BK245 := mk_ (blk_grown (g := gb245) (o := .cells #[.int .i64 a0_0, .slice (some ad249) l0_1.length c0_1] 27 (0, 0)) (bk_ BK245.out) hg (Kd.R_ne HO_3.out BK245.out (by decide))); replace HO_3 := mk_ (hp_); replace HB := mk_ ((by rw [hw]; exact below_set (HB.out) GB26.out : Below w.heap.size w w30)); clear hg hw hp_))
    go_roundg kj12
    case measure => have := HK1.out; have := HK2.out; have := HJ12.out; omega
    case rel => exact ⟨(y252), (wrap64 (x5_2 + 1)), (by first | rfl | (simp; done) | (simp [*]; done)), H', ⟨by have := HK1.out; have := HK2.out; have := HJ12.out; omega⟩, ⟨Kd.R_below HO_3.out lt_⟩, ⟨by (with_reducible repeat (first | refine blk_drewN ?_ _ | refine blk_drew ?_ | refine blk_alloc ?_ _)); exact BK245.out⟩, ⟨at_ HB.out⟩⟩

end Go.Proofs.YtcaogllnbpmcgaaDoor.P

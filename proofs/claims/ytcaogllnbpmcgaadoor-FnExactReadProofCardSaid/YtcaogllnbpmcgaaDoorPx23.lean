/- Go's functions come to just the answers of the Lean functions told here. -/
import Derived.Test.YtcaogllnbpmcgaaDoorPx0
namespace Go.Proofs.YtcaogllnbpmcgaaDoor.P
open Go.RowKit Go.Proofs.YtcaogllnbpmcgaaDoorW.PrintWords Go.Proofs.YtcaogllnbpmcgaaDoorW.PrintLast Go.Proofs.YtcaogllnbpmcgaaDoorW.PrintMore
attribute [local go_sem] max2_int min2_int max_two min_two max_three min_three max_four min_four
set_option linter.unusedVariables false
set_option linter.unusedSimpArgs false

/-! ### spec_l11Nothing: function 60 -/
def spec_l11Nothing.l0 : Nat → Int → List Int → Int → Option (List Int)
 | 0, _, _, _ => none
 | k + 1, x0, x3, x4 => if x4 < x0 then (if x3.length < 17592186044416 then (spec_l11Nothing.l0 k x0 (x3 ++ [(-1)]) (wrap64 (x4 + 1))) else (none)) else (some x3)
def spec_l11Nothing.f (k : Nat) (a0 : Int) : Option (List Int) := spec_l11Nothing.l0 k a0 (([] : List Int)) 0
theorem spec_l11Nothing.mono_l : ∀ k, (∀ y0 y1 y2, LeO (spec_l11Nothing.l0 k y0 y1 y2) (spec_l11Nothing.l0 (k + 1) y0 y1 y2))
 | 0 => fun _ _ _ r h => by simp [spec_l11Nothing.l0] at h
 | k + 1 => by
  have ih0 := spec_l11Nothing.mono_l k
  ·intro y0 y1 y2
   unfold spec_l11Nothing.l0
   repeat' first
   | (with_reducible exact ih0 _ _ _)
   | (with_reducible exact LeO.refl _)
   | (with_reducible exact LeO.none _)
   | (with_reducible refine LeO.ite ?_ ?_)
   | (with_reducible refine LeO.bind ?_ (fun _ => ?_))
theorem spec_l11Nothing.mono : ∀ a0 k, LeO (spec_l11Nothing.f k a0) (spec_l11Nothing.f (k + 1) a0) := by
 intro a0 k
 have ih0 := spec_l11Nothing.mono_l k
 unfold spec_l11Nothing.f
 repeat' first
   | (with_reducible exact ih0 _ _ _)
   | (with_reducible exact LeO.refl _)
   | (with_reducible exact LeO.none _)
   | (with_reducible refine LeO.ite ?_ ?_)
   | (with_reducible refine LeO.bind ?_ (fun _ => ?_))
set_option maxHeartbeats 8000000 in
set_option maxRecDepth 100000 in
theorem spec_l11Nothing.calls (k : Nat) (a0 : Int) (r : List Int) (w : World) (h : spec_l11Nothing.f k a0 = some r) :
  Calls Tryd.prog 60 #[.int .i64 a0] w fun e w' => ∃ v0_ : Value, e = .returned (v0_) ∧ Kd.R (Kd.int .i64) 3 w' w.heap.size (fun _ => True) v0_ r ∧ Below w.heap.size w w' := by
 have HB := mk_ (Below.refl w.heap.size w)
 have H : (spec_l11Nothing.l0 k a0 (([] : List Int)) 0) = some r := h
 clear h
 obtain ⟨y290, hy290⟩ : ∃ y_ : List Int, y_ = (([] : List Int)) := ⟨_, rfl⟩
 first | (replace H := bn_ hy290 H; try dsimp only at H) | rw [← hy290] at H
 have Ny290 := mk_ hy290
 clear hy290
 have H' := mk_ H
 clear H
 go_enter Tryd.func60, Tryd.ntmps60
 go_wp2_with (first | ((with_reducible refine gate_dst (N := 5) rfl ?_); refine Kd.R_lit (Kd.int .i64) _ 3 ?hg (N := 5) ?hd (xs := ([] : List Int)) (inner := []) (ok := fun _ => True) (okp := fun _ => True) ?hr ?hp (fun _ hk => hk) trivial (Below.refl _ _) (Nat.le_refl _) (by simp) ?_; (case hd => rfl); (case hg => rfl); (case hr => first | (go_simp; done) | (go_simp; rfl)); (case hp => exact (Reps.none _ _)); intro v291 w2 ho3 hb hg_ hnew_; clear hg_ hnew_; (first | rw [← Ny290.out] at ho3 | (simp only [Int.reduceToNat] at ho3; rw [← Ny290.out] at ho3)); have HO292 := mk_ (Kd.R_lower ho3 (below_size (below_at HB.out))); replace HB := mk_ (below_step (below_at HB.out) hb); clear hb ho3))
 go_loopg [3, 4] k (fun kq v3 v4 w' => ∃ (x3_1 : List Int) (x4_1 : Int), v4 = .int .i64 x4_1 ∧ Aside0 (spec_l11Nothing.l0 kq a0 x3_1 x4_1 = some r) ∧ Aside0 (kq ≤ k) ∧ Aside0 (Kd.R (Kd.int .i64) 3 w' w.heap.size (fun _ => True) v3 x3_1) ∧ Aside0 (Below w.heap.size w w'))
 case atStart => exact ⟨(y290), (0), sm_, H', ⟨Nat.le_refl _⟩, ⟨Kd.R_below HO292.out lt_⟩, ⟨below_at HB.out⟩⟩
 clear H'
 try clear p2
 obtain ⟨x3_1, x4_1, rfl, HA, HK1, HO_3, HB⟩ := hrel
 cases gk with
 | zero => exact absurd HA.out (by simp [spec_l11Nothing.l0])
 | succ k1 =>
  have H := HA.out
  clear HA
  simp only [spec_l11Nothing.l0] at H
  by_cases c4 : x4_1 < a0
  rotate_left
  ·rw [if_neg c4] at H
   have c4b0 : decide (x4_1 < a0) = false := decide_eq_false c4
   clear c4
   obtain rfl := Option.some.inj H
   go_wp2
   go_ret
   exact ⟨_, er_, rl_ HO_3.out, below_at HB.out⟩
  rw [if_pos c4] at H
  have c4b0 : decide (x4_1 < a0) = true := decide_eq_true c4
  clear c4
  by_cases c5 : x3_1.length < 17592186044416
  rotate_left
  ·rw [if_neg c5] at H
   exact absurd H (by simp)
  rw [if_pos c5] at H
  have LMc5 := mk_ c5
  clear c5
  obtain ⟨y293, hy293⟩ : ∃ y_ : List Int, y_ = (x3_1 ++ [(-1)]) := ⟨_, rfl⟩
  first | (replace H := bn_ hy293 H; try dsimp only at H) | rw [← hy293] at H
  have Ny293 := mk_ hy293
  clear hy293
  have H' := mk_ H
  clear H
  go_wp2_with (first | ((with_reducible refine gate_builtin (b := .append) (xs := #[.tmp 11, .tmp 12]) rfl ?_); at_builtin; refine Kd.R_append (Kd.int .i64) (w0 := w) w.heap.size rfl (.tmp 11) (.tmp 12) 103 3 (.int .i64 0) 8 rfl Tryd.underlying103 info3 rfl (by decide) (by omega) u3 x3_1 (-1) [.int .i64 (-1)] (fun _ => True) (fun _ => False) rfl rfl ?aP (fun _ hk => hk.elim) ?aF ?aO ?aB ?aS ?aL ?_; (case aP => exact rfl); (case aB => exact (below_at HB.out)); (case aF => exact (fun _ _ => trivial)); (case aO => exact (Kd.R_below HO_3.out lt_)); (case aS => exact (below_size (below_at HB.out))); (case aL => have := LMc5.out; omega); intro v294 w6 ho hb hg hat; rw [← Ny293.out] at ho; replace HB := mk_ (hb); have HO295 := mk_ (ho); (try clear HO_3); clear ho hb hg hat))
  go_roundg k1
  case measure => have := HK1.out; omega
  case rel => exact ⟨(y293), (wrap64 (x4_1 + 1)), sm_, H', ⟨by have := HK1.out; omega⟩, ⟨Kd.R_below HO295.out lt_⟩, ⟨below_at HB.out⟩⟩

/-! ### spec_l11Once: function 61 -/
mutual
def spec_l11Once.l0 : Nat → List Bool → Int → Int → List (S68) → Option (Bool)
 | 0, _, _, _, _ => none
 | k + 1, x3, x4, x297000, x297001 => if x4 < (x297001.length : Int) then (spec_l11Once.l1 k x3 x4 0 x297000 x297001) else (some true)
def spec_l11Once.l1 : Nat → List Bool → Int → Int → Int → List (S68) → Option (Bool)
 | 0, _, _, _, _, _ => none
 | k + 1, x3, x4, x5, x297000, x297001 => if x5 < 2 then (if 0 ≤ x4 then (if x4 < (x297001.length : Int) then (if x5 = 1 then (spec_l11Once.j2 k x3 x4 x5 ((rd_T68 x297001 x4).f2) x297000 x297001) else (spec_l11Once.j2 k x3 x4 x5 ((rd_T68 x297001 x4).f1) x297000 x297001)) else (none)) else (none)) else (spec_l11Once.l0 k x3 (wrap64 (x4 + 1)) x297000 x297001)
def spec_l11Once.j2 : Nat → List Bool → Int → Int → Int → Int → List (S68) → Option (Bool)
 | 0, _, _, _, _, _, _ => none
 | k + 1, x3, x4, x5, x6, x297000, x297001 => if x6 < 0 then (spec_l11Once.l1 k x3 x4 (wrap64 (x5 + 1)) x297000 x297001) else (if x6 ≥ (x297001.length : Int) then (some false) else (if 0 ≤ x6 then (if x6 < (x3.length : Int) then (if rdOf false x3 x6 = true then (some false) else (spec_l11Once.l1 k (x3.set (x6 : Int).toNat true) x4 (wrap64 (x5 + 1)) x297000 x297001)) else (none)) else (none)))
end
def spec_l11Once.f (k : Nat) (a0_0 : Int) (l0_1 : List (S68)) : Option (Bool) := if 0 ≤ (l0_1.length : Int) then (if ((l0_1.length : Int) : Int).toNat ≤ 281474976710656 then (spec_l11Once.l0 k (List.replicate ((l0_1.length : Int) : Int).toNat false) 0 a0_0 l0_1) else (none)) else (none)
set_option maxHeartbeats 8000000 in
set_option maxRecDepth 100000 in
theorem spec_l11Once.calls (k : Nat) (a0_0 : Int) (A0_1 : Option Addr) (c0_1 : Nat) (l0_1 : List (S68)) (r : Bool) (w : World) (hr0_1 : Kd.C k68 w A0_1 l0_1.length l0_1) (hc0_1 : l0_1.length ≤ c0_1) (h : spec_l11Once.f k a0_0 l0_1 = some r) :
  Calls Tryd.prog 61 #[.agg #[.int .i64 a0_0, .slice A0_1 l0_1.length c0_1]] w fun e w' => e = .returned (.bool r) ∧ Below w.heap.size w w' := by
 have hu27 := Tryd.underlying27
 have HR0_1 := mk_ hr0_1
 have HC0_1 := mk_ hc0_1
 clear hr0_1 hc0_1
 have HB := mk_ (Below.refl w.heap.size w)
 unfold spec_l11Once.f at h
 have H := h
 clear h
 by_cases c2 : 0 ≤ (l0_1.length : Int)
 rotate_left
 ·rw [if_neg c2] at H
  exact absurd H (by simp)
 rw [if_pos c2] at H
 have c2b0 := eq_true c2
 have c2b1 : decide (0 ≤ (l0_1.length : Int)) = true := decide_eq_true c2
 clear c2
 by_cases c3 : ((l0_1.length : Int) : Int).toNat ≤ 281474976710656
 rotate_left
 ·rw [if_neg c3] at H
  exact absurd H (by simp)
 rw [if_pos c3] at H
 have c3b0 := eq_true c3
 have c3b1 : decide (((l0_1.length : Int) : Int).toNat ≤ 281474976710656) = true := decide_eq_true c3
 clear c3
 obtain ⟨y297, hy297⟩ : ∃ y_ : List Bool, y_ = (List.replicate ((l0_1.length : Int) : Int).toNat false) := ⟨_, rfl⟩
 first | (replace H := bn_ hy297 H; try dsimp only at H) | rw [← hy297] at H
 have Ny297 := mk_ hy297
 clear hy297
 have H' := mk_ H
 clear H
 go_enter Tryd.func61, Tryd.ntmps61
 go_wp2_with (first | ((with_reducible refine gate_dst (N := 1) rfl ?_); refine bx_ 1 #[.int .i64 a0_0, .slice A0_1 l0_1.length c0_1] 27 ?_; intro gb296 hg w4 hbox hb; have BK296 := mk_ (hbox); have GW296 := mk_ (gb_ hg HB.out); have GE296 := mk_ (gb_ hg HB.out); replace HB := mk_ (below_step (below_at HB.out) hb); clear hb hbox hg; have hcz5_0 := blk_cell BK296.out 0; have hcz5_1 := blk_cell BK296.out 1; have hfz5_0 := blk_frozen BK296.out 0; have hfz5_1 := blk_frozen BK296.out 1) | ((with_reducible refine gate_dst (N := 10) rfl ?_); refine Kd.R_make Kd.bool _ 4 rfl (N := 10) rfl 63 _ _ rfl (l0_1.length : Int) rfl rfl Tryd.underlying63 (.bool false) 1 info4 rfl (by decide) (by omega) false (ok := fun _ => True) (okp := fun _ => True) rfl (fun _ hk => hk) trivial (oa_) (Nat.le_trans (Nat.mul_le_mul_right _ (oa_ : (l0_1.length : Int).toNat ≤ 281474976710656)) (by omega)) (Below.refl _ _) (Nat.le_refl _) ?_; intro v298 w6 ho7 hb hg_ hnew_; clear hg_ hnew_; (first | rw [← Ny297.out] at ho7 | (simp only [Int.reduceToNat] at ho7; rw [← Ny297.out] at ho7)); have HO299 := mk_ (Kd.R_lower ho7 (below_size (at_ HB.out))); replace BK296 := mk_ (blk_at BK296.out hb); replace HB := mk_ (below_step (at_ HB.out) hb); clear hb ho7))
 go_loopg [4] k (fun kq v4 w' => ∃ (x3_1 : List Bool) (x4_1 : Int), v4 = .int .i64 x4_1 ∧ Aside0 (spec_l11Once.l0 kq x3_1 x4_1 a0_0 l0_1 = some r) ∧ Aside0 (kq ≤ k) ∧ Aside0 (Kd.R Kd.bool 4 w' w.heap.size (fun _ => True) v298 x3_1) ∧ Aside0 (w'.heap[gb296]? = some (.cells #[.int .i64 a0_0, (.slice A0_1 l0_1.length c0_1)] 27 (0, 0))) ∧ Aside0 (Below w.heap.size w w'))
 case atStart => exact ⟨(y297), (0), sm_, H', ⟨Nat.le_refl _⟩, ⟨Kd.R_below HO299.out lt_⟩, ⟨by refine bs_ ?_; exact BK296.out⟩, ⟨at_ HB.out⟩⟩
 clear H'
 try clear c2
 try clear c2b0
 try clear c2b1
 try clear p2
 try clear c3
 try clear c3b0
 try clear c3b1
 try clear c6
 try clear hcz5_0
 try clear hcz5_1
 try clear hfz5_0
 try clear hfz5_1
 obtain ⟨x3_1, x4_1, rfl, HA, HK1, HO_3, BK296, HB⟩ := hrel
 cases gk with
 | zero => exact absurd HA.out (by simp [spec_l11Once.l0])
 | succ k1 =>
  have H := HA.out
  clear HA
  simp only [spec_l11Once.l0] at H
  by_cases c8 : x4_1 < (l0_1.length : Int)
  rotate_left
  ·rw [if_neg c8] at H
   have c8b0 : decide (x4_1 < (l0_1.length : Int)) = false := decide_eq_false c8
   clear c8
   obtain rfl := Option.some.inj H
   have hcz31_0 : wr.cell? ⟨gb296, 0, none⟩ = some (.int .i64 a0_0) := (blk_cell BK296.out 0).trans rfl
   have hcz31_1 : wr.cell? ⟨gb296, 1, none⟩ = some (.slice A0_1 l0_1.length c0_1) := (blk_cell BK296.out 1).trans rfl
   have hfz31_0 := blk_frozen BK296.out 0
   have hfz31_1 := blk_frozen BK296.out 1
   go_wp2
   go_ret
   exact ⟨er_, at_ HB.out⟩
  rw [if_pos c8] at H
  have c8b0 : decide (x4_1 < (l0_1.length : Int)) = true := decide_eq_true c8
  clear c8
  have H' := mk_ H
  clear H
  have hcz9_0 : wr.cell? ⟨gb296, 0, none⟩ = some (.int .i64 a0_0) := (blk_cell BK296.out 0).trans rfl
  have hcz9_1 : wr.cell? ⟨gb296, 1, none⟩ = some (.slice A0_1 l0_1.length c0_1) := (blk_cell BK296.out 1).trans rfl
  have hfz9_0 := blk_frozen BK296.out 0
  have hfz9_1 := blk_frozen BK296.out 1
  go_wp2
  go_loopg [5] k1 (fun kq v5 w' => ∃ (x3_2 : List Bool) (x5_2 : Int), v5 = .int .i64 x5_2 ∧ Aside0 (spec_l11Once.l1 kq x3_2 x4_1 x5_2 a0_0 l0_1 = some r) ∧ Aside0 (kq ≤ k1) ∧ Aside0 (Kd.R Kd.bool 4 w' w.heap.size (fun _ => True) v298 x3_2) ∧ Aside0 (w'.heap[gb296]? = some (.cells #[.int .i64 a0_0, (.slice A0_1 l0_1.length c0_1)] 27 (0, 0))) ∧ Aside0 (Below w.heap.size w w'))
  case atStart => exact ⟨(x3_1), (0), sm_, H', ⟨Nat.le_refl _⟩, ⟨Kd.R_below HO_3.out lt_⟩, ⟨by refine bs_ ?_; exact BK296.out⟩, ⟨at_ HB.out⟩⟩
  clear H'
  try clear c2
  try clear c2b0
  try clear c2b1
  try clear p2
  try clear c3
  try clear c3b0
  try clear c3b1
  try clear c6
  try clear c8
  try clear c8b0
  try clear hcz5_0
  try clear hcz5_1
  try clear hcz9_0
  try clear hcz9_1
  try clear hfz5_0
  try clear hfz5_1
  try clear hfz9_0
  try clear hfz9_1
  try clear p2
  obtain ⟨x3_2, x5_2, rfl, HA, HK2, HO_3, BK296, HB⟩ := hrel
  cases gk with
  | zero => exact absurd HA.out (by simp [spec_l11Once.l1])
  | succ k2 =>
   have H := HA.out
   clear HA
   simp only [spec_l11Once.l1] at H
   by_cases c10 : x5_2 < 2
   rotate_left
   ·rw [if_neg c10] at H
    have c10b0 : decide (x5_2 < 2) = false := decide_eq_false c10
    clear c10
    have H' := mk_ H
    clear H
    go_wp2
    go_roundg k2
    case measure => have := HK1.out; have := HK2.out; omega
    case rel => exact ⟨(x3_2), (wrap64 (x4_1 + 1)), sm_, H', ⟨by have := HK1.out; have := HK2.out; omega⟩, ⟨Kd.R_below HO_3.out lt_⟩, ⟨by refine bs_ ?_; exact BK296.out⟩, ⟨at_ HB.out⟩⟩
   rw [if_pos c10] at H
   have c10b0 : decide (x5_2 < 2) = true := decide_eq_true c10
   clear c10
   by_cases c11 : 0 ≤ x4_1
   rotate_left
   ·rw [if_neg c11] at H
    exact absurd H (by simp)
   rw [if_pos c11] at H
   have c11b0 : decide (0 ≤ x4_1) = true := decide_eq_true c11
   clear c11
   by_cases c12 : x4_1 < (l0_1.length : Int)
   rotate_left
   ·rw [if_neg c12] at H
    exact absurd H (by simp)
   rw [if_pos c12] at H
   have c12b0 : decide (x4_1 < (l0_1.length : Int)) = true := decide_eq_true c12
   clear c12
   have HC13 := mk_ H
   clear H
   have hcz14_0 : wr.cell? ⟨gb296, 0, none⟩ = some (.int .i64 a0_0) := (blk_cell BK296.out 0).trans rfl
   have hcz14_1 : wr.cell? ⟨gb296, 1, none⟩ = some (.slice A0_1 l0_1.length c0_1) := (blk_cell BK296.out 1).trans rfl
   have hfz14_0 := blk_frozen BK296.out 0
   have hfz14_1 := blk_frozen BK296.out 1
   have p300 : 0 ≤ (x4_1 : Int) := oa_
   have q300 : x4_1 < (l0_1.length : Int) := oa_
   obtain ⟨ad300, e300, hx300_0, hx300_1, hx300_2⟩ := at_T68 HR0_1.out x4_1 p300 q300
   cases e300
   replace hx300_0 := cel HB.out hx300_0
   replace hx300_1 := cel HB.out hx300_1
   replace hx300_2 := cel HB.out hx300_2
   replace p300 := eq_true p300
   replace q300 := eq_true q300
   go_upto_if 29 with (fail)
   go_cut [6] (fun v6 wc => ∃ (kq : Nat) (x6_12 : Int), v6 = .int .i64 x6_12 ∧ Aside0 (spec_l11Once.j2 kq x3_2 x4_1 x5_2 x6_12 a0_0 l0_1 = some r) ∧ Aside0 (kq ≤ k2) ∧ Aside0 (Kd.R Kd.bool 4 wc w.heap.size (fun _ => True) v298 x3_2) ∧ Aside0 (wc.heap[gb296]? = some (.cells #[.int .i64 a0_0, (.slice (some ad300) l0_1.length c0_1)] 27 (0, 0))) ∧ Aside0 (Below w.heap.size w wc))
   case first =>
    have H := HC13.out
    clear HC13
    by_cases c15 : x5_2 = 1
    rotate_left
    ·rw [if_neg c15] at H
     have c15b0 : (x5_2 == 1) = false := beq_eq_false_iff_ne.mpr c15
     have c15b1 : (x5_2 != 1) = true := bne_iff_ne.mpr c15
     (first | rw [c15b0] | (simp only [i64_w, i32_w]; rw [c15b0]) | skip)
     have H' := mk_ H
     clear H
     go_wp2
     go_meet
     case rel => exact ⟨_, ((rd_T68 l0_1 x4_1).f1), sm_, H', ⟨by have := HK1.out; have := HK2.out; first | omega | exact Nat.le_refl _⟩, ⟨Kd.R_below HO_3.out lt_⟩, ⟨by refine bs_ ?_; exact BK296.out⟩, ⟨at_ HB.out⟩⟩
    rw [if_pos c15] at H
    have c15b0 : (x5_2 == 1) = true := beq_iff_eq.mpr c15
    have c15b1 : (x5_2 != 1) = false := bne_eq_false_iff_eq.mpr c15
    clear c15
    (first | rw [c15b0] | (simp only [i64_w, i32_w]; rw [c15b0]) | skip)
    have H' := mk_ H
    clear H
    have hcz16_0 : wr.cell? ⟨gb296, 0, none⟩ = some (.int .i64 a0_0) := (blk_cell BK296.out 0).trans rfl
    have hcz16_1 : wr.cell? ⟨gb296, 1, none⟩ = some (.slice (some ad300) l0_1.length c0_1) := (blk_cell BK296.out 1).trans rfl
    have hfz16_0 := blk_frozen BK296.out 0
    have hfz16_1 := blk_frozen BK296.out 1
    have p301 : 0 ≤ (x4_1 : Int) := oa_
    have q301 : x4_1 < (l0_1.length : Int) := oa_
    obtain ⟨ad301, e301, hx301_0, hx301_1, hx301_2⟩ := at_T68 HR0_1.out x4_1 p301 q301
    obtain rfl : ad300 = ad301 := (by injection e301)
    replace hx301_0 := cel HB.out hx301_0
    replace hx301_1 := cel HB.out hx301_1
    replace hx301_2 := cel HB.out hx301_2
    replace p301 := eq_true p301
    replace q301 := eq_true q301
    go_wp2
    go_meet
    case rel => exact ⟨_, ((rd_T68 l0_1 x4_1).f2), sm_, H', ⟨by have := HK1.out; have := HK2.out; first | omega | exact Nat.le_refl _⟩, ⟨Kd.R_below HO_3.out lt_⟩, ⟨by refine bs_ ?_; exact BK296.out⟩, ⟨at_ HB.out⟩⟩
   clear HC13
   try clear c1
   try clear c2
   try clear c2b0
   try clear c2b1
   try clear p2
   try clear c3
   try clear c3b0
   try clear c3b1
   try clear p3
   try clear q3
   try clear hx3
   try clear c6
   try clear c8
   try clear c8b0
   try clear c10
   try clear c10b0
   try clear c11
   try clear c11b0
   try clear c12
   try clear c12b0
   try clear c15
   try clear c15b0
   try clear c15b1
   try clear hcz14_0
   try clear hcz14_1
   try clear hcz16_0
   try clear hcz16_1
   try clear hcz5_0
   try clear hcz5_1
   try clear hcz9_0
   try clear hcz9_1
   try clear hfz14_0
   try clear hfz14_1
   try clear hfz16_0
   try clear hfz16_1
   try clear hfz5_0
   try clear hfz5_1
   try clear hfz9_0
   try clear hfz9_1
   try clear hx300_0
   try clear hx300_1
   try clear hx300_2
   try clear hx301_0
   try clear hx301_1
   try clear hx301_2
   try clear p2
   try clear p300
   try clear p301
   try clear q300
   try clear q301
   obtain ⟨kq, x6_12, rfl, HA, HJ12, HO_3, BK296, HB⟩ := hcut
   cases kq with
   | zero => exact absurd HA.out (by simp [spec_l11Once.j2])
   | succ kj12 =>
    have H := HA.out
    clear HA
    simp only [spec_l11Once.j2] at H
    by_cases c17 : x6_12 < 0
    ·rw [if_pos c17] at H
     have c17b0 : decide (x6_12 < 0) = true := decide_eq_true c17
     clear c17
     have H' := mk_ H
     clear H
     go_wp2
     go_roundg kj12
     case measure => have := HK1.out; have := HK2.out; have := HJ12.out; omega
     case rel => exact ⟨(x3_2), (wrap64 (x5_2 + 1)), sm_, H', ⟨by have := HK1.out; have := HK2.out; have := HJ12.out; omega⟩, ⟨Kd.R_below HO_3.out lt_⟩, ⟨by refine bs_ ?_; exact BK296.out⟩, ⟨at_ HB.out⟩⟩
    rw [if_neg c17] at H
    have c17b0 : decide (x6_12 < 0) = false := decide_eq_false c17
    clear c17
    by_cases c18 : x6_12 ≥ (l0_1.length : Int)
    ·rw [if_pos c18] at H
     have c18b0 : decide ((l0_1.length : Int) ≤ x6_12) = true := decide_eq_true c18
     clear c18
     obtain rfl := Option.some.inj H
     have hcz19_0 : wc.cell? ⟨gb296, 0, none⟩ = some (.int .i64 a0_0) := (blk_cell BK296.out 0).trans rfl
     have hcz19_1 : wc.cell? ⟨gb296, 1, none⟩ = some (.slice (some ad300) l0_1.length c0_1) := (blk_cell BK296.out 1).trans rfl
     have hfz19_0 := blk_frozen BK296.out 0
     have hfz19_1 := blk_frozen BK296.out 1
     go_wp2
     go_ret
     exact ⟨er_, at_ HB.out⟩
    rw [if_neg c18] at H
    have c18b0 : decide ((l0_1.length : Int) ≤ x6_12) = false := decide_eq_false c18
    clear c18
    by_cases c20 : 0 ≤ x6_12
    rotate_left
    ·rw [if_neg c20] at H
     exact absurd H (by simp)
    rw [if_pos c20] at H
    have c20b0 : decide (0 ≤ x6_12) = true := decide_eq_true c20
    clear c20
    by_cases c21 : x6_12 < (x3_2.length : Int)
    rotate_left
    ·rw [if_neg c21] at H
     exact absurd H (by simp)
    rw [if_pos c21] at H
    have c21b0 : decide (x6_12 < (x3_2.length : Int)) = true := decide_eq_true c21
    clear c21
    obtain ⟨bq22, hbq22⟩ : ∃ b_ : Bool, b_ = (rdOf false x3_2 x6_12) := ⟨_, rfl⟩
    replace H : (if bq22 = true then (some false) else (spec_l11Once.l1 kj12 (x3_2.set (x6_12 : Int).toNat true) x4_1 (wrap64 (x5_2 + 1)) a0_0 l0_1)) = some r := by rw [← hbq22] at H; exact H
    have Nbq22 := mk_ hbq22
    clear hbq22
    by_cases c23 : bq22 = true
    ·subst c23
     rw [if_pos rfl] at H
     obtain rfl := Option.some.inj H
     have hcz24_0 : wc.cell? ⟨gb296, 0, none⟩ = some (.int .i64 a0_0) := (blk_cell BK296.out 0).trans rfl
     have hcz24_1 : wc.cell? ⟨gb296, 1, none⟩ = some (.slice (some ad300) l0_1.length c0_1) := (blk_cell BK296.out 1).trans rfl
     have hfz24_0 := blk_frozen BK296.out 0
     have hfz24_1 := blk_frozen BK296.out 1
     obtain ⟨Ao25, co25, eo25⟩ := Kd.R_slice HO_3.out
     subst eo25
     have p302 : 0 ≤ (x6_12 : Int) := oa_
     have q302 : x6_12 < (x3_2.length : Int) := oa_
     obtain ⟨ad302, e302, hx302_0⟩ := Kd.at_bool (Kd.R_reads' HO_3.out).2.2 x6_12 p302 q302
     (try rw [← Nbq22.out] at hx302_0)
     cases e302
     replace p302 := eq_true p302
     replace q302 := eq_true q302
     go_wp2
     go_ret
     exact ⟨er_, at_ HB.out⟩
    replace c23 := Bool.eq_false_iff.mpr c23
    subst c23
    rw [if_neg Bool.false_ne_true] at H
    obtain ⟨y303, hy303⟩ : ∃ y_ : List Bool, y_ = (x3_2.set (x6_12 : Int).toNat true) := ⟨_, rfl⟩
    first | (replace H := bn_ hy303 H; try dsimp only at H) | rw [← hy303] at H
    have Ny303 := mk_ hy303
    clear hy303
    have H' := mk_ H
    clear H
    have hcz27_0 : wc.cell? ⟨gb296, 0, none⟩ = some (.int .i64 a0_0) := (blk_cell BK296.out 0).trans rfl
    have hcz27_1 : wc.cell? ⟨gb296, 1, none⟩ = some (.slice (some ad300) l0_1.length c0_1) := (blk_cell BK296.out 1).trans rfl
    have hfz27_0 := blk_frozen BK296.out 0
    have hfz27_1 := blk_frozen BK296.out 1
    obtain ⟨Ao28, co28, eo28⟩ := Kd.R_slice HO_3.out
    subst eo28
    have p302 : 0 ≤ (x6_12 : Int) := oa_
    have q302 : x6_12 < (x3_2.length : Int) := oa_
    obtain ⟨ad302, e302, hx302_0⟩ := Kd.at_bool (Kd.R_reads' HO_3.out).2.2 x6_12 p302 q302
    (try rw [← Nbq22.out] at hx302_0)
    cases e302
    replace p302 := eq_true p302
    replace q302 := eq_true q302
    have p26 : 0 ≤ (x6_12 : Int) := oa_
    have q26 : (x6_12 : Int) < ((x3_2.length : Int) : Int) := oa_
    obtain ⟨go26, co26, eo26, gb26, gl26, cl26, HG26⟩ := Kd.R_form HO_3.out (by omega)
    (first | cases eo26 | (injection eo26 with ea_ en_ ec_; (first | subst ea_ | (injection ea_ with ea_; subst ea_)); subst ec_; clear en_))
    have GB26 := mk_ gb26
    have GG26 := mk_ HG26
    clear gb26 gl26 HG26
    (first | simp only [add_plain] at hx302_0 | skip)
    obtain ⟨hx26_0, hf26_0⟩ := Kd.R_celln false HO_3.out (x6_12 : Int) p26 q26
    replace p26 := eq_true p26
    replace q26 := eq_true q26
    have HP29 := Kd.R_putg HO_3.out (x6_12 : Int) true
    go_wp2_with (first | ((with_reducible refine gate_store (t := 4) (p := 51) rfl ?_); refine store_event (t := 4) (p := 51) (v := ?vo_w30) (w1 := (wc.setCell ⟨go26, (x6_12 : Int).toNat, none⟩ (.bool true))) ?hg ?ho ?hn ?hr ?_; (case ho => rfl); (case hg => rfl); (case hn => rfl); (case hr => first | (go_simp; done) | (go_simp; rfl)); intro w30 hw; have hg : wc.grownBy w30 (some go26) := (by rw [hw]; exact HP29.2); have hp_ : Kd.R Kd.bool 4 w30 w.heap.size (fun _ => True) (.slice (some ⟨go26, 0, none⟩) x3_2.length co28) y303 := (by rw [hw, Ny303.out]; exact HP29.1); clear HP29; replace BK296 := mk_ (blk_grown (g := gb296) (o := .cells #[.int .i64 a0_0, .slice (some ad300) l0_1.length c0_1] 27 (0, 0)) (bk_ BK296.out) hg (Kd.R_ne HO_3.out BK296.out (by decide))); replace HO_3 := mk_ (hp_); replace HB := mk_ ((by rw [hw]; exact below_set (HB.out) GB26.out : Below w.heap.size w w30)); clear hg hw hp_))
    go_roundg kj12
    case measure => have := HK1.out; have := HK2.out; have := HJ12.out; omega
    case rel => exact ⟨(y303), (wrap64 (x5_2 + 1)), sm_, H', ⟨by have := HK1.out; have := HK2.out; have := HJ12.out; omega⟩, ⟨Kd.R_below HO_3.out lt_⟩, ⟨by refine bs_ ?_; exact BK296.out⟩, ⟨at_ HB.out⟩⟩

end Go.Proofs.YtcaogllnbpmcgaaDoor.P

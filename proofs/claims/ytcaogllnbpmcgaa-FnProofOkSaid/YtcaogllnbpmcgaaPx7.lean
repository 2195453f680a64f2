/- Go's functions come to just the answers of the Lean functions told here. -/
import Derived.Test.YtcaogllnbpmcgaaPx0
namespace Go.Proofs.Ytcaogllnbpmcgaa.P
open Go.RowKit Go.Proofs.YtcaogllnbpmcgaaW.PrintWords Go.Proofs.YtcaogllnbpmcgaaW.PrintLast Go.Proofs.YtcaogllnbpmcgaaW.PrintMore
attribute [local go_sem] max2_int min2_int max_two min_two max_three min_three max_four min_four
set_option linter.unusedVariables false
set_option linter.unusedSimpArgs false
def spec_l11Nothing.l0 : Nat → Int → List Int → Int → Option (List Int)
 | 0, _, _, _ => none
 | k + 1, x0, x3, x4 => if x4 < x0 then (if x3.length < 17592186044416 then (spec_l11Nothing.l0 k x0 (x3 ++ [(-1)]) (wrap64 (x4 + 1))) else (none)) else (some x3)
def spec_l11Nothing.f (k : Nat) (a0 : Int) : Option (List Int) := spec_l11Nothing.l0 k a0 (([] : List Int)) 0
theorem spec_l11Nothing.mono_l : ∀ k, (∀ y0 y1 y2, LeO (spec_l11Nothing.l0 k y0 y1 y2) (spec_l11Nothing.l0 (k + 1) y0 y1 y2))
 | 0 => fun _ _ _ r h => by simp [spec_l11Nothing.l0] at h
 | k + 1 => by
  have ih0 := spec_l11Nothing.mono_l k
  ·intro y0 y1 y2
   unfold spec_l11Nothing.l0
   repeat' first
   | (with_reducible exact ih0 _ _ _)
   | (with_reducible exact LeO.refl _)
   | (with_reducible exact LeO.none _)
   | (with_reducible refine LeO.ite ?_ ?_)
   | (with_reducible refine LeO.bind ?_ (fun _ => ?_))
theorem spec_l11Nothing.mono : ∀ a0 k, LeO (spec_l11Nothing.f k a0) (spec_l11Nothing.f (k + 1) a0) := by
 intro a0 k
 have ih0 := spec_l11Nothing.mono_l k
 unfold spec_l11Nothing.f
 repeat' first
   | (with_reducible exact ih0 _ _ _)
   | (with_reducible exact LeO.refl _)
   | (with_reducible exact LeO.none _)
   | (with_reducible refine LeO.ite ?_ ?_)
   | (with_reducible refine LeO.bind ?_ (fun _ => ?_))
set_option maxHeartbeats 8000000 in
set_option maxRecDepth 100000 in
theorem spec_l11Nothing.calls (k : Nat) (a0 : Int) (r : List Int) (w : World) (h : spec_l11Nothing.f k a0 = some r) :
  Calls Try.prog 70 #[.int .i64 a0] w fun e w' => ∃ v0_ : Value, e = .returned (v0_) ∧ Kd.R (Kd.int .i64) 3 w' w.heap.size (fun _ => True) v0_ r ∧ Below w.heap.size w w' := by
 have HB := mk_ (Below.refl w.heap.size w)
 have H : (spec_l11Nothing.l0 k a0 (([] : List Int)) 0) = some r := h
 clear h
 obtain ⟨y171, hy171⟩ : ∃ y_ : List Int, y_ = (([] : List Int)) := ⟨_, rfl⟩
 replace H : (spec_l11Nothing.l0 k a0 y171 0) = some r := by first | (rw [hy171]; exact H) | exact H
 have Ny171 := mk_ hy171
 clear hy171
 have H' := mk_ H
 clear H
 go_enter Try.func70, Try.ntmps70
 go_wp2_with (first | ((with_reducible refine gate_dst (N := 5) rfl ?_); refine Kd.R_lit (Kd.int .i64) _ 3 ?hg (N := 5) ?hd (xs := ([] : List Int)) (inner := []) (ok := fun _ => True) (okp := fun _ => True) ?hr ?hp (fun _ hk => hk) trivial (Below.refl _ _) (Nat.le_refl _) (by simp) ?_; (case hd => rfl); (case hg => rfl); (case hr => first | (go_simp; done) | (go_simp; rfl)); (case hp => exact (Reps.none _ _)); intro v172 w2 ho3 hb hg_ hnew_; clear hg_ hnew_; (first | rw [← Ny171.out] at ho3 | (simp only [Int.reduceToNat] at ho3; rw [← Ny171.out] at ho3)); have HO173 := mk_ (Kd.R_lower ho3 (below_size (below_at HB.out))); replace HB := mk_ (below_step (below_at HB.out) hb); clear hb ho3))
 go_loopg [3, 4] k (fun kq v3 v4 w' => ∃ (x3_1 : List Int) (x4_1 : Int), v4 = .int .i64 x4_1 ∧ Aside0 (spec_l11Nothing.l0 kq a0 x3_1 x4_1 = some r) ∧ Aside0 (kq ≤ k) ∧ Aside0 (Kd.R (Kd.int .i64) 3 w' w.heap.size (fun _ => True) v3 x3_1) ∧ Aside0 (Below w.heap.size w w'))
 case atStart => exact ⟨(y171), (0), sm_, H', ⟨Nat.le_refl _⟩, ⟨Kd.R_below HO173.out lt_⟩, ⟨below_at HB.out⟩⟩
 clear H'
 try clear p2
 obtain ⟨x3_1, x4_1, rfl, HA, HK1, HO_3, HB⟩ := hrel
 cases gk with
 | zero => exact absurd HA.out (by simp [spec_l11Nothing.l0])
 | succ k1 =>
  have H := HA.out
  clear HA
  simp only [spec_l11Nothing.l0] at H
  by_cases c4 : x4_1 < a0
  rotate_left
  ·rw [if_neg c4] at H
   have c4b0 : decide (x4_1 < a0) = false := decide_eq_false c4
   clear c4
   obtain rfl := Option.some.inj H
   go_wp2
   go_ret
   exact ⟨_, er_, rl_ HO_3.out, below_at HB.out⟩
  rw [if_pos c4] at H
  have c4b0 : decide (x4_1 < a0) = true := decide_eq_true c4
  clear c4
  by_cases c5 : x3_1.length < 17592186044416
  rotate_left
  ·rw [if_neg c5] at H
   exact absurd H (by simp)
  rw [if_pos c5] at H
  have LMc5 := mk_ c5
  clear c5
  obtain ⟨y174, hy174⟩ : ∃ y_ : List Int, y_ = (x3_1 ++ [(-1)]) := ⟨_, rfl⟩
  first | (replace H := bn_ hy174 H; try dsimp only at H) | rw [← hy174] at H
  have Ny174 := mk_ hy174
  clear hy174
  have H' := mk_ H
  clear H
  go_wp2_with (first | ((with_reducible refine gate_builtin (b := .append) (xs := #[.tmp 11, .tmp 12]) rfl ?_); at_builtin; refine Kd.R_append (Kd.int .i64) (w0 := w) w.heap.size rfl (.tmp 11) (.tmp 12) 42 3 (.int .i64 0) 8 rfl Try.underlying42 info3 rfl (by decide) (by omega) u3 x3_1 (-1) [.int .i64 (-1)] (fun _ => True) (fun _ => False) rfl rfl ?aP (fun _ hk => hk.elim) ?aF ?aO ?aB ?aS ?aL ?_; (case aP => exact rfl); (case aB => exact (below_at HB.out)); (case aF => exact (fun _ _ => trivial)); (case aO => exact (Kd.R_below HO_3.out lt_)); (case aS => exact (below_size (below_at HB.out))); (case aL => have := LMc5.out; omega); intro v175 w6 ho hb hg hat; rw [← Ny174.out] at ho; replace HB := mk_ (hb); have HO176 := mk_ (ho); (try clear HO_3); clear ho hb hg hat))
  go_roundg k1
  case measure => have := HK1.out; omega
  case rel => exact ⟨(y174), (wrap64 (x4_1 + 1)), sm_, H', ⟨by have := HK1.out; omega⟩, ⟨Kd.R_below HO176.out lt_⟩, ⟨below_at HB.out⟩⟩
mutual
def spec_l11Once.l0 : Nat → List Bool → Int → Int → List (S93) → Option (Bool)
 | 0, _, _, _, _ => none
 | k + 1, x3, x4, x178000, x178001 => if x4 < (x178001.length : Int) then (spec_l11Once.l1 k x3 x4 0 x178000 x178001) else (some true)
def spec_l11Once.l1 : Nat → List Bool → Int → Int → Int → List (S93) → Option (Bool)
 | 0, _, _, _, _, _ => none
 | k + 1, x3, x4, x5, x178000, x178001 => if x5 < 2 then (if 0 ≤ x4 then (if x4 < (x178001.length : Int) then (if x5 = 1 then (spec_l11Once.j2 k x3 x4 x5 ((rd_T93 x178001 x4).f2) x178000 x178001) else (spec_l11Once.j2 k x3 x4 x5 ((rd_T93 x178001 x4).f1) x178000 x178001)) else (none)) else (none)) else (spec_l11Once.l0 k x3 (wrap64 (x4 + 1)) x178000 x178001)
def spec_l11Once.j2 : Nat → List Bool → Int → Int → Int → Int → List (S93) → Option (Bool)
 | 0, _, _, _, _, _, _ => none
 | k + 1, x3, x4, x5, x6, x178000, x178001 => if x6 < 0 then (spec_l11Once.l1 k x3 x4 (wrap64 (x5 + 1)) x178000 x178001) else (if x6 ≥ (x178001.length : Int) then (some false) else (if 0 ≤ x6 then (if x6 < (x3.length : Int) then (if rdOf false x3 x6 = true then (some false) else (spec_l11Once.l1 k (x3.set (x6 : Int).toNat true) x4 (wrap64 (x5 + 1)) x178000 x178001)) else (none)) else (none)))
end
def spec_l11Once.f (k : Nat) (a0_0 : Int) (l0_1 : List (S93)) : Option (Bool) := if 0 ≤ (l0_1.length : Int) then (if ((l0_1.length : Int) : Int).toNat ≤ 281474976710656 then (spec_l11Once.l0 k (List.replicate ((l0_1.length : Int) : Int).toNat false) 0 a0_0 l0_1) else (none)) else (none)
set_option maxHeartbeats 8000000 in
set_option maxRecDepth 100000 in
theorem spec_l11Once.calls (k : Nat) (a0_0 : Int) (A0_1 : Option Addr) (c0_1 : Nat) (l0_1 : List (S93)) (r : Bool) (w : World) (hr0_1 : Kd.C k93 w A0_1 l0_1.length l0_1) (hc0_1 : l0_1.length ≤ c0_1) (h : spec_l11Once.f k a0_0 l0_1 = some r) :
  Calls Try.prog 71 #[.agg #[.int .i64 a0_0, .slice A0_1 l0_1.length c0_1]] w fun e w' => e = .returned (.bool r) ∧ Below w.heap.size w w' := by
 have hu51 := Try.underlying51
 have HR0_1 := mk_ hr0_1
 have HC0_1 := mk_ hc0_1
 clear hr0_1 hc0_1
 have HB := mk_ (Below.refl w.heap.size w)
 unfold spec_l11Once.f at h
 have H := h
 clear h
 by_cases c2 : 0 ≤ (l0_1.length : Int)
 rotate_left
 ·rw [if_neg c2] at H
  exact absurd H (by simp)
 rw [if_pos c2] at H
 have c2b0 := eq_true c2
 have c2b1 : decide (0 ≤ (l0_1.length : Int)) = true := decide_eq_true c2
 clear c2
 by_cases c3 : ((l0_1.length : Int) : Int).toNat ≤ 281474976710656
 rotate_left
 ·rw [if_neg c3] at H
  exact absurd H (by simp)
 rw [if_pos c3] at H
 have c3b0 := eq_true c3
 have c3b1 : decide (((l0_1.length : Int) : Int).toNat ≤ 281474976710656) = true := decide_eq_true c3
 clear c3
 obtain ⟨y178, hy178⟩ : ∃ y_ : List Bool, y_ = (List.replicate ((l0_1.length : Int) : Int).toNat false) := ⟨_, rfl⟩
 first | (replace H := bn_ hy178 H; try dsimp only at H) | rw [← hy178] at H
 have Ny178 := mk_ hy178
 clear hy178
 have H' := mk_ H
 clear H
 go_enter Try.func71, Try.ntmps71
 go_wp2_with (first | ((with_reducible refine gate_dst (N := 1) rfl ?_); refine bx_ 1 #[.int .i64 a0_0, .slice A0_1 l0_1.length c0_1] 51 ?_; intro gb177 hg w4 hbox hb; have BK177 := mk_ (hbox); have GW177 := mk_ (gb_ hg HB.out); have GE177 := mk_ (gb_ hg HB.out); replace HB := mk_ (below_step (below_at HB.out) hb); clear hb hbox hg; have hcz5_0 := blk_cell BK177.out 0; have hcz5_1 := blk_cell BK177.out 1; have hfz5_0 := blk_frozen BK177.out 0; have hfz5_1 := blk_frozen BK177.out 1) | ((with_reducible refine gate_dst (N := 10) rfl ?_); refine Kd.R_make Kd.bool _ 4 rfl (N := 10) rfl 102 _ _ rfl (l0_1.length : Int) rfl rfl Try.underlying102 (.bool false) 1 info4 rfl (by decide) (by omega) false (ok := fun _ => True) (okp := fun _ => True) rfl (fun _ hk => hk) trivial (oa_) (Nat.le_trans (Nat.mul_le_mul_right _ (oa_ : (l0_1.length : Int).toNat ≤ 281474976710656)) (by omega)) (Below.refl _ _) (Nat.le_refl _) ?_; intro v179 w6 ho7 hb hg_ hnew_; clear hg_ hnew_; (first | rw [← Ny178.out] at ho7 | (simp only [Int.reduceToNat] at ho7; rw [← Ny178.out] at ho7)); have HO180 := mk_ (Kd.R_lower ho7 (below_size (at_ HB.out))); replace BK177 := mk_ (blk_at BK177.out hb); replace HB := mk_ (below_step (at_ HB.out) hb); clear hb ho7))
 go_loopg [4] k (fun kq v4 w' => ∃ (x3_1 : List Bool) (x4_1 : Int), v4 = .int .i64 x4_1 ∧ Aside0 (spec_l11Once.l0 kq x3_1 x4_1 a0_0 l0_1 = some r) ∧ Aside0 (kq ≤ k) ∧ Aside0 (Kd.R Kd.bool 4 w' w.heap.size (fun _ => True) v179 x3_1) ∧ Aside0 (w'.heap[gb177]? = some (.cells #[.int .i64 a0_0, (.slice A0_1 l0_1.length c0_1)] 51 (0, 0))) ∧ Aside0 (Below w.heap.size w w'))
 case atStart => exact ⟨(y178), (0), sm_, H', ⟨Nat.le_refl _⟩, ⟨Kd.R_below HO180.out lt_⟩, ⟨by refine bs_ ?_; exact BK177.out⟩, ⟨at_ HB.out⟩⟩
 clear H'
 try clear c2
 try clear c2b0
 try clear c2b1
 try clear p2
 try clear c3
 try clear c3b0
 try clear c3b1
 try clear c7
 try clear hcz5_0
 try clear hcz5_1
 try clear hfz5_0
 try clear hfz5_1
 obtain ⟨x3_1, x4_1, rfl, HA, HK1, HO_3, BK177, HB⟩ := hrel
 cases gk with
 | zero => exact absurd HA.out (by simp [spec_l11Once.l0])
 | succ k1 =>
  have H := HA.out
  clear HA
  simp only [spec_l11Once.l0] at H
  by_cases c8 : x4_1 < (l0_1.length : Int)
  rotate_left
  ·rw [if_neg c8] at H
   have c8b0 : decide (x4_1 < (l0_1.length : Int)) = false := decide_eq_false c8
   clear c8
   obtain rfl := Option.some.inj H
   have hcz31_0 : wr.cell? ⟨gb177, 0, none⟩ = some (.int .i64 a0_0) := (blk_cell BK177.out 0).trans rfl
   have hcz31_1 : wr.cell? ⟨gb177, 1, none⟩ = some (.slice A0_1 l0_1.length c0_1) := (blk_cell BK177.out 1).trans rfl
   have hfz31_0 := blk_frozen BK177.out 0
   have hfz31_1 := blk_frozen BK177.out 1
   go_wp2
   go_ret
   exact ⟨er_, at_ HB.out⟩
  rw [if_pos c8] at H
  have c8b0 : decide (x4_1 < (l0_1.length : Int)) = true := decide_eq_true c8
  clear c8
  have H' := mk_ H
  clear H
  have hcz9_0 : wr.cell? ⟨gb177, 0, none⟩ = some (.int .i64 a0_0) := (blk_cell BK177.out 0).trans rfl
  have hcz9_1 : wr.cell? ⟨gb177, 1, none⟩ = some (.slice A0_1 l0_1.length c0_1) := (blk_cell BK177.out 1).trans rfl
  have hfz9_0 := blk_frozen BK177.out 0
  have hfz9_1 := blk_frozen BK177.out 1
  go_wp2
  go_loopg [5] k1 (fun kq v5 w' => ∃ (x3_2 : List Bool) (x5_2 : Int), v5 = .int .i64 x5_2 ∧ Aside0 (spec_l11Once.l1 kq x3_2 x4_1 x5_2 a0_0 l0_1 = some r) ∧ Aside0 (kq ≤ k1) ∧ Aside0 (Kd.R Kd.bool 4 w' w.heap.size (fun _ => True) v179 x3_2) ∧ Aside0 (w'.heap[gb177]? = some (.cells #[.int .i64 a0_0, (.slice A0_1 l0_1.length c0_1)] 51 (0, 0))) ∧ Aside0 (Below w.heap.size w w'))
  case atStart => exact ⟨(x3_1), (0), sm_, H', ⟨Nat.le_refl _⟩, ⟨Kd.R_below HO_3.out lt_⟩, ⟨by refine bs_ ?_; exact BK177.out⟩, ⟨at_ HB.out⟩⟩
  clear H'
  try clear c2
  try clear c2b0
  try clear c2b1
  try clear p2
  try clear c3
  try clear c3b0
  try clear c3b1
  try clear c7
  try clear c8
  try clear c8b0
  try clear hcz5_0
  try clear hcz5_1
  try clear hcz9_0
  try clear hcz9_1
  try clear hfz5_0
  try clear hfz5_1
  try clear hfz9_0
  try clear hfz9_1
  try clear p2
  obtain ⟨x3_2, x5_2, rfl, HA, HK2, HO_3, BK177, HB⟩ := hrel
  cases gk with
  | zero => exact absurd HA.out (by simp [spec_l11Once.l1])
  | succ k2 =>
   have H := HA.out
   clear HA
   simp only [spec_l11Once.l1] at H
   by_cases c10 : x5_2 < 2
   rotate_left
   ·rw [if_neg c10] at H
    have c10b0 : decide (x5_2 < 2) = false := decide_eq_false c10
    clear c10
    have H' := mk_ H
    clear H
    go_wp2
    go_roundg k2
    case measure => have := HK1.out; have := HK2.out; omega
    case rel => exact ⟨(x3_2), (wrap64 (x4_1 + 1)), sm_, H', ⟨by have := HK1.out; have := HK2.out; omega⟩, ⟨Kd.R_below HO_3.out lt_⟩, ⟨by refine bs_ ?_; exact BK177.out⟩, ⟨at_ HB.out⟩⟩
   rw [if_pos c10] at H
   have c10b0 : decide (x5_2 < 2) = true := decide_eq_true c10
   clear c10
   by_cases c11 : 0 ≤ x4_1
   rotate_left
   ·rw [if_neg c11] at H
    exact absurd H (by simp)
   rw [if_pos c11] at H
   have c11b0 : decide (0 ≤ x4_1) = true := decide_eq_true c11
   clear c11
   by_cases c12 : x4_1 < (l0_1.length : Int)
   rotate_left
   ·rw [if_neg c12] at H
    exact absurd H (by simp)
   rw [if_pos c12] at H
   have c12b0 : decide (x4_1 < (l0_1.length : Int)) = true := decide_eq_true c12
   clear c12
   have HC13 := mk_ H
   clear H
   have hcz14_0 : wr.cell? ⟨gb177, 0, none⟩ = some (.int .i64 a0_0) := (blk_cell BK177.out 0).trans rfl
   have hcz14_1 : wr.cell? ⟨gb177, 1, none⟩ = some (.slice A0_1 l0_1.length c0_1) := (blk_cell BK177.out 1).trans rfl
   have hfz14_0 := blk_frozen BK177.out 0
   have hfz14_1 := blk_frozen BK177.out 1
   have p181 : 0 ≤ (x4_1 : Int) := oa_
   have q181 : x4_1 < (l0_1.length : Int) := oa_
   obtain ⟨ad181, e181, hx181_0, hx181_1, hx181_2⟩ := at_T93 HR0_1.out x4_1 p181 q181
   cases e181
   replace hx181_0 := cel HB.out hx181_0
   replace hx181_1 := cel HB.out hx181_1
   replace hx181_2 := cel HB.out hx181_2
   replace p181 := eq_true p181
   replace q181 := eq_true q181
   go_upto_if 29 with (fail)
   go_cut [6] (fun v6 wc => ∃ (kq : Nat) (x6_12 : Int), v6 = .int .i64 x6_12 ∧ Aside0 (spec_l11Once.j2 kq x3_2 x4_1 x5_2 x6_12 a0_0 l0_1 = some r) ∧ Aside0 (kq ≤ k2) ∧ Aside0 (Kd.R Kd.bool 4 wc w.heap.size (fun _ => True) v179 x3_2) ∧ Aside0 (wc.heap[gb177]? = some (.cells #[.int .i64 a0_0, (.slice (some ad181) l0_1.length c0_1)] 51 (0, 0))) ∧ Aside0 (Below w.heap.size w wc))
   case first =>
    have H := HC13.out
    clear HC13
    by_cases c15 : x5_2 = 1
    rotate_left
    ·rw [if_neg c15] at H
     have c15b0 : (x5_2 == 1) = false := beq_eq_false_iff_ne.mpr c15
     have c15b1 : (x5_2 != 1) = true := bne_iff_ne.mpr c15
     (first | rw [c15b0] | (simp only [i64_w, i32_w]; rw [c15b0]) | skip)
     have H' := mk_ H
     clear H
     go_wp2
     go_meet
     case rel => exact ⟨_, ((rd_T93 l0_1 x4_1).f1), sm_, H', ⟨by have := HK1.out; have := HK2.out; first | omega | exact Nat.le_refl _⟩, ⟨Kd.R_below HO_3.out lt_⟩, ⟨by refine bs_ ?_; exact BK177.out⟩, ⟨at_ HB.out⟩⟩
    rw [if_pos c15] at H
    have c15b0 : (x5_2 == 1) = true := beq_iff_eq.mpr c15
    have c15b1 : (x5_2 != 1) = false := bne_eq_false_iff_eq.mpr c15
    clear c15
    (first | rw [c15b0] | (simp only [i64_w, i32_w]; rw [c15b0]) | skip)
    have H' := mk_ H
    clear H
    have hcz16_0 : wr.cell? ⟨gb177, 0, none⟩ = some (.int .i64 a0_0) := (blk_cell BK177.out 0).trans rfl
    have hcz16_1 : wr.cell? ⟨gb177, 1, none⟩ = some (.slice (some ad181) l0_1.length c0_1) := (blk_cell BK177.out 1).trans rfl
    have hfz16_0 := blk_frozen BK177.out 0
    have hfz16_1 := blk_frozen BK177.out 1
    have p182 : 0 ≤ (x4_1 : Int) := oa_
    have q182 : x4_1 < (l0_1.length : Int) := oa_
    obtain ⟨ad182, e182, hx182_0, hx182_1, hx182_2⟩ := at_T93 HR0_1.out x4_1 p182 q182
    obtain rfl : ad181 = ad182 := (by injection e182)
    replace hx182_0 := cel HB.out hx182_0
    replace hx182_1 := cel HB.out hx182_1
    replace hx182_2 := cel HB.out hx182_2
    replace p182 := eq_true p182
    replace q182 := eq_true q182
    go_wp2
    go_meet
    case rel => exact ⟨_, ((rd_T93 l0_1 x4_1).f2), sm_, H', ⟨by have := HK1.out; have := HK2.out; first | omega | exact Nat.le_refl _⟩, ⟨Kd.R_below HO_3.out lt_⟩, ⟨by refine bs_ ?_; exact BK177.out⟩, ⟨at_ HB.out⟩⟩
   clear HC13
   try clear c1
   try clear p1
   try clear q1
   try clear hx1
   try clear c2
   try clear c2b0
   try clear c2b1
   try clear p2
   try clear c3
   try clear c3b0
   try clear c3b1
   try clear c7
   try clear c8
   try clear c8b0
   try clear c10
   try clear c10b0
   try clear c11
   try clear c11b0
   try clear c12
   try clear c12b0
   try clear c15
   try clear c15b0
   try clear c15b1
   try clear hcz14_0
   try clear hcz14_1
   try clear hcz16_0
   try clear hcz16_1
   try clear hcz5_0
   try clear hcz5_1
   try clear hcz9_0
   try clear hcz9_1
   try clear hfz14_0
   try clear hfz14_1
   try clear hfz16_0
   try clear hfz16_1
   try clear hfz5_0
   try clear hfz5_1
   try clear hfz9_0
   try clear hfz9_1
   try clear hx181_0
   try clear hx181_1
   try clear hx181_2
   try clear hx182_0
   try clear hx182_1
   try clear hx182_2
   try clear p181
   try clear p182
   try clear p2
   try clear q181
   try clear q182
   obtain ⟨kq, x6_12, rfl, HA, HJ12, HO_3, BK177, HB⟩ := hcut
   cases kq with
   | zero => exact absurd HA.out (by simp [spec_l11Once.j2])
   | succ kj12 =>
    have H := HA.out
    clear HA
    simp only [spec_l11Once.j2] at H
    by_cases c17 : x6_12 < 0
    ·rw [if_pos c17] at H
     have c17b0 : decide (x6_12 < 0) = true := decide_eq_true c17
     clear c17
     have H' := mk_ H
     clear H
     go_wp2
     go_roundg kj12
     case measure => have := HK1.out; have := HK2.out; have := HJ12.out; omega
     case rel => exact ⟨(x3_2), (wrap64 (x5_2 + 1)), sm_, H', ⟨by have := HK1.out; have := HK2.out; have := HJ12.out; omega⟩, ⟨Kd.R_below HO_3.out lt_⟩, ⟨by refine bs_ ?_; exact BK177.out⟩, ⟨at_ HB.out⟩⟩
    rw [if_neg c17] at H
    have c17b0 : decide (x6_12 < 0) = false := decide_eq_false c17
    clear c17
    by_cases c18 : x6_12 ≥ (l0_1.length : Int)
    ·rw [if_pos c18] at H
     have c18b0 : decide ((l0_1.length : Int) ≤ x6_12) = true := decide_eq_true c18
     clear c18
     obtain rfl := Option.some.inj H
     have hcz19_0 : wc.cell? ⟨gb177, 0, none⟩ = some (.int .i64 a0_0) := (blk_cell BK177.out 0).trans rfl
     have hcz19_1 : wc.cell? ⟨gb177, 1, none⟩ = some (.slice (some ad181) l0_1.length c0_1) := (blk_cell BK177.out 1).trans rfl
     have hfz19_0 := blk_frozen BK177.out 0
     have hfz19_1 := blk_frozen BK177.out 1
     go_wp2
     go_ret
     exact ⟨er_, at_ HB.out⟩
    rw [if_neg c18] at H
    have c18b0 : decide ((l0_1.length : Int) ≤ x6_12) = false := decide_eq_false c18
    clear c18
    by_cases c20 : 0 ≤ x6_12
    rotate_left
    ·rw [if_neg c20] at H
     exact absurd H (by simp)
    rw [if_pos c20] at H
    have c20b0 : decide (0 ≤ x6_12) = true := decide_eq_true c20
    clear c20
    by_cases c21 : x6_12 < (x3_2.length : Int)
    rotate_left
    ·rw [if_neg c21] at H
     exact absurd H (by simp)
    rw [if_pos c21] at H
    have c21b0 : decide (x6_12 < (x3_2.length : Int)) = true := decide_eq_true c21
    clear c21
    obtain ⟨bq22, hbq22⟩ : ∃ b_ : Bool, b_ = (rdOf false x3_2 x6_12) := ⟨_, rfl⟩
    replace H : (if bq22 = true then (some false) else (spec_l11Once.l1 kj12 (x3_2.set (x6_12 : Int).toNat true) x4_1 (wrap64 (x5_2 + 1)) a0_0 l0_1)) = some r := by rw [← hbq22] at H; exact H
    have Nbq22 := mk_ hbq22
    clear hbq22
    by_cases c23 : bq22 = true
    ·subst c23
     rw [if_pos rfl] at H
     obtain rfl := Option.some.inj H
     have hcz24_0 : wc.cell? ⟨gb177, 0, none⟩ = some (.int .i64 a0_0) := (blk_cell BK177.out 0).trans rfl
     have hcz24_1 : wc.cell? ⟨gb177, 1, none⟩ = some (.slice (some ad181) l0_1.length c0_1) := (blk_cell BK177.out 1).trans rfl
     have hfz24_0 := blk_frozen BK177.out 0
     have hfz24_1 := blk_frozen BK177.out 1
     obtain ⟨Ao25, co25, eo25⟩ := Kd.R_slice HO_3.out
     subst eo25
     have p183 : 0 ≤ (x6_12 : Int) := oa_
     have q183 : x6_12 < (x3_2.length : Int) := oa_
     obtain ⟨ad183, e183, hx183_0⟩ := Kd.at_bool (Kd.R_reads' HO_3.out).2.2 x6_12 p183 q183
     (try rw [← Nbq22.out] at hx183_0)
     cases e183
     replace p183 := eq_true p183
     replace q183 := eq_true q183
     go_wp2
     go_ret
     exact ⟨er_, at_ HB.out⟩
    replace c23 := Bool.eq_false_iff.mpr c23
    subst c23
    rw [if_neg Bool.false_ne_true] at H
    obtain ⟨y184, hy184⟩ : ∃ y_ : List Bool, y_ = (x3_2.set (x6_12 : Int).toNat true) := ⟨_, rfl⟩
    first | (replace H := bn_ hy184 H; try dsimp only at H) | rw [← hy184] at H
    have Ny184 := mk_ hy184
    clear hy184
    have H' := mk_ H
    clear H
    have hcz27_0 : wc.cell? ⟨gb177, 0, none⟩ = some (.int .i64 a0_0) := (blk_cell BK177.out 0).trans rfl
    have hcz27_1 : wc.cell? ⟨gb177, 1, none⟩ = some (.slice (some ad181) l0_1.length c0_1) := (blk_cell BK177.out 1).trans rfl
    have hfz27_0 := blk_frozen BK177.out 0
    have hfz27_1 := blk_frozen BK177.out 1
    obtain ⟨Ao28, co28, eo28⟩ := Kd.R_slice HO_3.out
    subst eo28
    have p183 : 0 ≤ (x6_12 : Int) := oa_
    have q183 : x6_12 < (x3_2.length : Int) := oa_
    obtain ⟨ad183, e183, hx183_0⟩ := Kd.at_bool (Kd.R_reads' HO_3.out).2.2 x6_12 p183 q183
    (try rw [← Nbq22.out] at hx183_0)
    cases e183
    replace p183 := eq_true p183
    replace q183 := eq_true q183
    have p26 : 0 ≤ (x6_12 : Int) := oa_
    have q26 : (x6_12 : Int) < ((x3_2.length : Int) : Int) := oa_
    obtain ⟨go26, co26, eo26, gb26, gl26, cl26, HG26⟩ := Kd.R_form HO_3.out (by omega)
    (first | cases eo26 | (injection eo26 with ea_ en_ ec_; (first | subst ea_ | (injection ea_ with ea_; subst ea_)); subst ec_; clear en_))
    have GB26 := mk_ gb26
    have GG26 := mk_ HG26
    clear gb26 gl26 HG26
    (first | simp only [add_plain] at hx183_0 | skip)
    obtain ⟨hx26_0, hf26_0⟩ := Kd.R_celln false HO_3.out (x6_12 : Int) p26 q26
    replace p26 := eq_true p26
    replace q26 := eq_true q26
    have HP29 := Kd.R_putg HO_3.out (x6_12 : Int) true
    go_wp2_with (first | ((with_reducible refine gate_store (t := 4) (p := 51) rfl ?_); refine store_event (t := 4) (p := 51) (v := ?vo_w30) (w1 := (wc.setCell ⟨go26, (x6_12 : Int).toNat, none⟩ (.bool true))) ?hg ?ho ?hn ?hr ?_; (case ho => rfl); (case hg => rfl); (case hn => rfl); (case hr => first | (go_simp; done) | (go_simp; rfl)); intro w30 hw; have hg : wc.grownBy w30 (some go26) := (by rw [hw]; exact HP29.2); have hp_ : Kd.R Kd.bool 4 w30 w.heap.size (fun _ => True) (.slice (some ⟨go26, 0, none⟩) x3_2.length co28) y184 := (by rw [hw, Ny184.out]; exact HP29.1); clear HP29; replace BK177 := mk_ (blk_grown (g := gb177) (o := .cells #[.int .i64 a0_0, .slice (some ad181) l0_1.length c0_1] 51 (0, 0)) (bk_ BK177.out) hg (Kd.R_ne HO_3.out BK177.out (by decide))); replace HO_3 := mk_ (hp_); replace HB := mk_ ((by rw [hw]; exact below_set (HB.out) GB26.out : Below w.heap.size w w30)); clear hg hw hp_))
    go_roundg kj12
    case measure => have := HK1.out; have := HK2.out; have := HJ12.out; omega
    case rel => exact ⟨(y184), (wrap64 (x5_2 + 1)), sm_, H', ⟨by have := HK1.out; have := HK2.out; have := HJ12.out; omega⟩, ⟨Kd.R_below HO_3.out lt_⟩, ⟨by refine bs_ ?_; exact BK177.out⟩, ⟨at_ HB.out⟩⟩
end Go.Proofs.Ytcaogllnbpmcgaa.P

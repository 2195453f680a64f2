/- Go's functions come to just the answers of the Lean functions told here. -/
import Derived.Test.YtcaogllnbpmcgaaPx2
namespace Go.Proofs.Ytcaogllnbpmcgaa.P
open Go.RowKit Go.Proofs.YtcaogllnbpmcgaaW.PrintWords Go.Proofs.YtcaogllnbpmcgaaW.PrintLast Go.Proofs.YtcaogllnbpmcgaaW.PrintMore
attribute [local go_sem] max2_int min2_int max_two min_two max_three min_three max_four min_four
set_option linter.unusedVariables false
set_option linter.unusedSimpArgs false
mutual
def impl_TermOk.j0 : Nat → Int → List (S47) → Bool → Option (Bool)
 | 0, _, _, _ => none
 | k + 1, x0, x1, x20 => if x20 = true then (some false) else (impl_TermOk.l0 k x0 0 x1 (x1.length : Int) 0)
def impl_TermOk.l0 : Nat → Int → Int → List (S47) → Int → Int → Option (Bool)
 | 0, _, _, _, _, _ => none
 | k + 1, x0, x5, x21, x22, x23 => if x23 < x22 then (if 0 ≤ x23 then (if x23 < (x21.length : Int) then (if ((rd_T47 x21 x23).f0) = 0 then (if ((rd_T47 x21 x23).f1) < 0 then (some false) else (if ((rd_T47 x21 x23).f1) ≥ x0 then (some false) else (impl_TermOk.l0 k x0 (wrap64 (x5 + 1)) x21 x22 (wrap64 (x23 + 1))))) else (if ((rd_T47 x21 x23).f0) = 1 then (if ((rd_T47 x21 x23).f1) < 0 then (some false) else (if ((rd_T47 x21 x23).f1) > (wrap64 (x0 + 1)) then (some false) else (impl_TermOk.l0 k x0 (wrap64 (x5 + 1)) x21 x22 (wrap64 (x23 + 1))))) else (if ((rd_T47 x21 x23).f0) = 2 then (if ((rd_T47 x21 x23).f1) = 0 then (if x5 < 1 then (some false) else (impl_TermOk.l0 k x0 x5 x21 x22 (wrap64 (x23 + 1)))) else (some false)) else (if ((rd_T47 x21 x23).f0) = 3 then (impl_TermOk.j2 k x0 x5 x21 x22 x23 (((rd_T47 x21 x23).f0) == 3) ((rd_T47 x21 x23).f0) ((rd_T47 x21 x23).f1)) else (if ((rd_T47 x21 x23).f0) = 4 then (impl_TermOk.j2 k x0 x5 x21 x22 x23 (((rd_T47 x21 x23).f0) == 4) ((rd_T47 x21 x23).f0) ((rd_T47 x21 x23).f1)) else (impl_TermOk.j2 k x0 x5 x21 x22 x23 (((rd_T47 x21 x23).f0) == 5) ((rd_T47 x21 x23).f0) ((rd_T47 x21 x23).f1))))))) else (none)) else (none)) else (some (x5 == 1))
def impl_TermOk.j2 : Nat → Int → Int → List (S47) → Int → Int → Bool → Int → Int → Option (Bool)
 | 0, _, _, _, _, _, _, _, _ => none
 | k + 1, x0, x5, x21, x22, x23, x65, x197000, x197001 => if x65 = true then (if x197001 = 0 then (if x5 < 2 then (some false) else (impl_TermOk.l0 k x0 (wrap64 (x5 - 1)) x21 x22 (wrap64 (x23 + 1)))) else (some false)) else (some false)
end
def impl_TermOk.f (k : Nat) (a0 : Int) (l1 : List (S47)) : Option (Bool) := (impl_peopleOk.f a0).bind fun t194 => (if t194 = true then (if (l1.length : Int) < 1 then (impl_TermOk.j0 k a0 l1 true) else (impl_TermOk.j0 k a0 l1 (decide ((l1.length : Int) > 15)))) else (impl_TermOk.j0 k a0 l1 true))
set_option maxHeartbeats 8000000 in
set_option maxRecDepth 100000 in
theorem impl_TermOk.calls (k : Nat) (a0 : Int) (A1 : Option Addr) (c1 : Nat) (l1 : List (S47)) (r : Bool) (w : World) (hr1 : Kd.C k47 w A1 l1.length l1) (hc1 : l1.length ≤ c1) (h : impl_TermOk.f k a0 l1 = some r) :
  Calls Try.prog 65 #[.int .i64 a0, .slice A1 l1.length c1] w fun e w' => e = .returned (.bool r) ∧ Below w.heap.size w w' := by
 have hu47 := Try.underlying47
 have HR1 := mk_ hr1
 have HC1 := mk_ hc1
 clear hr1 hc1
 have HB := mk_ (Below.refl w.heap.size w)
 unfold impl_TermOk.f at h
 have H := h
 clear h
 have HC3 := mk_ H
 clear H
 go_enter Try.func65, Try.ntmps65
 go_upto_region 1 with (fail)
 go_cut [20] (fun v20 wc => ∃ (kq : Nat) (x20_2 : Bool), v20 = .bool x20_2 ∧ Aside0 (impl_TermOk.j0 kq a0 l1 x20_2 = some r) ∧ Aside0 (kq ≤ k) ∧ Aside0 (Below w.heap.size w wc))
 case first =>
  have H := HC3.out
  clear HC3
  replace H := Option.bind_eq_some_iff.mp H
  obtain ⟨t194, A40, H⟩ := H
  try dsimp only at H
  have A4 := mk_ A40
  clear A40
  by_cases c5 : t194 = true
  rotate_left
  ·replace c5 := Bool.eq_false_iff.mpr c5
   subst c5
   rw [if_neg Bool.false_ne_true] at H
   have H' := mk_ H
   clear H
   go_wp2_with (first | ((with_reducible refine gate_callee (f := 58) rfl ?_); refine goesL_ (some 9) rfl rfl Try.func58 (by kernel_rfl) rfl #[.int .i64 a0] rfl gl_ ?_; (with_reducible refine (impl_peopleOk.calls a0 false _ A4.out).mono ?_); rintro e w' ⟨rfl, ⟨nd, rfl⟩⟩; refine ⟨_, rfl, ?_⟩))
   go_meet
   case rel => exact ⟨_, (true), sm_, H', ⟨by first | omega | exact Nat.le_refl _⟩, ⟨below_at HB.out⟩⟩
  subst c5
  rw [if_pos rfl] at H
  by_cases c6 : (l1.length : Int) < 1
  ·rw [if_pos c6] at H
   have c6b0 : decide ((l1.length : Int) < 1) = true := decide_eq_true c6
   have c6b1 : decide (l1.length < 1) = true := decide_eq_true (by omega)
   clear c6
   (first | rw [c6b0] | (simp only [i64_w, i32_w]; rw [c6b0]) | skip)
   have H' := mk_ H
   clear H
   go_wp2_with (first | ((with_reducible refine gate_callee (f := 58) rfl ?_); refine goesL_ (some 9) rfl rfl Try.func58 (by kernel_rfl) rfl #[.int .i64 a0] rfl gl_ ?_; (with_reducible refine (impl_peopleOk.calls a0 true _ A4.out).mono ?_); rintro e w' ⟨rfl, ⟨nd, rfl⟩⟩; refine ⟨_, rfl, ?_⟩))
   go_meet
   case rel => exact ⟨_, (true), sm_, H', ⟨by first | omega | exact Nat.le_refl _⟩, ⟨below_at HB.out⟩⟩
  rw [if_neg c6] at H
  have c6b0 : decide ((l1.length : Int) < 1) = false := decide_eq_false c6
  have c6b1 : decide (l1.length < 1) = false := decide_eq_false (by omega)
  clear c6
  (first | rw [c6b0] | (simp only [i64_w, i32_w]; rw [c6b0]) | skip)
  have H' := mk_ H
  clear H
  go_wp2_with (first | ((with_reducible refine gate_callee (f := 58) rfl ?_); refine goesL_ (some 9) rfl rfl Try.func58 (by kernel_rfl) rfl #[.int .i64 a0] rfl gl_ ?_; (with_reducible refine (impl_peopleOk.calls a0 true _ A4.out).mono ?_); rintro e w' ⟨rfl, ⟨nd, rfl⟩⟩; refine ⟨_, rfl, ?_⟩))
  go_meet
  case rel => exact ⟨_, (decide ((l1.length : Int) > 15)), sm_, H', ⟨by first | omega | exact Nat.le_refl _⟩, ⟨below_at HB.out⟩⟩
 clear HC3
 try clear c1
 try clear p2
 try clear c5
 try clear c6
 try clear c6b0
 try clear c6b1
 obtain ⟨kq, x20_2, rfl, HA, HJ2, HB⟩ := hcut
 cases kq with
 | zero => exact absurd HA.out (by simp [impl_TermOk.j0])
 | succ kj2 =>
  have H := HA.out
  clear HA
  simp only [impl_TermOk.j0] at H
  by_cases c7 : x20_2 = true
  ·subst c7
   rw [if_pos rfl] at H
   obtain rfl := Option.some.inj H
   go_wp2
   go_ret
   exact ⟨er_, below_at HB.out⟩
  replace c7 := Bool.eq_false_iff.mpr c7
  subst c7
  rw [if_neg Bool.false_ne_true] at H
  have H' := mk_ H
  clear H
  go_wp2
  go_loopg [5, 23] kj2 (fun kq v5 v23 w' => ∃ (x5_2 : Int) (x23_2 : Int), v5 = .int .i64 x5_2 ∧ v23 = .int .i64 x23_2 ∧ Aside0 (impl_TermOk.l0 kq a0 x5_2 l1 (l1.length : Int) x23_2 = some r) ∧ Aside0 (kq ≤ kj2) ∧ Aside0 (Below w.heap.size w w'))
  case atStart => exact ⟨(0), (0), sm_, sm_, H', ⟨Nat.le_refl _⟩, ⟨below_at HB.out⟩⟩
  clear H'
  try clear c1
  try clear p2
  try clear c5
  try clear c6
  try clear c6b0
  try clear c6b1
  try clear c7
  try clear p2
  obtain ⟨x5_2, x23_2, rfl, rfl, HA, HK2, HB⟩ := hrel
  cases gk with
  | zero => exact absurd HA.out (by simp [impl_TermOk.l0])
  | succ k2 =>
   have H := HA.out
   clear HA
   simp only [impl_TermOk.l0] at H
   by_cases c8 : x23_2 < (l1.length : Int)
   rotate_left
   ·rw [if_neg c8] at H
    have c8b0 : decide (x23_2 < (l1.length : Int)) = false := decide_eq_false c8
    clear c8
    obtain rfl := Option.some.inj H
    go_wp2
    go_ret
    exact ⟨er_, below_at HB.out⟩
   rw [if_pos c8] at H
   have c8b0 : decide (x23_2 < (l1.length : Int)) = true := decide_eq_true c8
   clear c8
   by_cases c9 : 0 ≤ x23_2
   rotate_left
   ·rw [if_neg c9] at H
    exact absurd H (by simp)
   rw [if_pos c9] at H
   have c9b0 : decide (0 ≤ x23_2) = true := decide_eq_true c9
   clear c9
   by_cases c10 : x23_2 < (l1.length : Int)
   rotate_left
   ·rw [if_neg c10] at H
    exact absurd H (by simp)
   rw [if_pos c10] at H
   have c10b0 : decide (x23_2 < (l1.length : Int)) = true := decide_eq_true c10
   clear c10
   by_cases c11 : ((rd_T47 l1 x23_2).f0) = 0
   ·rw [if_pos c11] at H
    have c11b0 : (((rd_T47 l1 x23_2).f0) == 0) = true := beq_iff_eq.mpr c11
    have c11b1 : (((rd_T47 l1 x23_2).f0) != 0) = false := bne_eq_false_iff_eq.mpr c11
    clear c11
    by_cases c12 : ((rd_T47 l1 x23_2).f1) < 0
    ·rw [if_pos c12] at H
     have c12b0 : decide (((rd_T47 l1 x23_2).f1) < 0) = true := decide_eq_true c12
     clear c12
     obtain rfl := Option.some.inj H
     have p195 : 0 ≤ (x23_2 : Int) := oa_
     have q195 : x23_2 < (l1.length : Int) := oa_
     obtain ⟨ad195, e195, hx195_0, hx195_1⟩ := at_T47 HR1.out x23_2 p195 q195
     cases e195
     replace hx195_0 := cel HB.out hx195_0
     replace hx195_1 := cel HB.out hx195_1
     replace p195 := eq_true p195
     replace q195 := eq_true q195
     go_wp2_with (first | ((with_reducible refine gate_dst (N := 7) rfl ?_); (try (refine gate_guard (by rfl) ?_; dsimp only)); refine bx_ 7 #[.int .i64 0, .int .i64 0] 47 ?_; intro gb196 hg w13 hbox hb; have BK196 := mk_ (hbox); have GW196 := mk_ (gb_ hg HB.out); have GE196 := mk_ (gb_ hg HB.out); replace HB := mk_ (below_step (below_at HB.out) hb); clear hb hbox hg; have hcz14_0 := blk_cell BK196.out 0; have hcz14_1 := blk_cell BK196.out 1; have hfz14_0 := blk_frozen BK196.out 0; have hfz14_1 := blk_frozen BK196.out 1))
     go_ret
     exact ⟨er_, at_ HB.out⟩
    rw [if_neg c12] at H
    have c12b0 : decide (((rd_T47 l1 x23_2).f1) < 0) = false := decide_eq_false c12
    clear c12
    by_cases c15 : ((rd_T47 l1 x23_2).f1) ≥ a0
    ·rw [if_pos c15] at H
     have c15b0 : decide (a0 ≤ ((rd_T47 l1 x23_2).f1)) = true := decide_eq_true c15
     clear c15
     obtain rfl := Option.some.inj H
     have p195 : 0 ≤ (x23_2 : Int) := oa_
     have q195 : x23_2 < (l1.length : Int) := oa_
     obtain ⟨ad195, e195, hx195_0, hx195_1⟩ := at_T47 HR1.out x23_2 p195 q195
     cases e195
     replace hx195_0 := cel HB.out hx195_0
     replace hx195_1 := cel HB.out hx195_1
     replace p195 := eq_true p195
     replace q195 := eq_true q195
     go_wp2_with (first | ((with_reducible refine gate_dst (N := 7) rfl ?_); (try (refine gate_guard (by rfl) ?_; dsimp only)); refine bx_ 7 #[.int .i64 0, .int .i64 0] 47 ?_; intro gb196 hg w16 hbox hb; have BK196 := mk_ (hbox); have GW196 := mk_ (gb_ hg HB.out); have GE196 := mk_ (gb_ hg HB.out); replace HB := mk_ (below_step (below_at HB.out) hb); clear hb hbox hg; have hcz17_0 := blk_cell BK196.out 0; have hcz17_1 := blk_cell BK196.out 1; have hfz17_0 := blk_frozen BK196.out 0; have hfz17_1 := blk_frozen BK196.out 1))
     go_ret
     exact ⟨er_, at_ HB.out⟩
    rw [if_neg c15] at H
    have c15b0 : decide (a0 ≤ ((rd_T47 l1 x23_2).f1)) = false := decide_eq_false c15
    clear c15
    have H' := mk_ H
    clear H
    have p195 : 0 ≤ (x23_2 : Int) := oa_
    have q195 : x23_2 < (l1.length : Int) := oa_
    obtain ⟨ad195, e195, hx195_0, hx195_1⟩ := at_T47 HR1.out x23_2 p195 q195
    cases e195
    replace hx195_0 := cel HB.out hx195_0
    replace hx195_1 := cel HB.out hx195_1
    replace p195 := eq_true p195
    replace q195 := eq_true q195
    go_wp2_with (first | ((with_reducible refine gate_dst (N := 7) rfl ?_); (try (refine gate_guard (by rfl) ?_; dsimp only)); refine bx_ 7 #[.int .i64 0, .int .i64 0] 47 ?_; intro gb196 hg w18 hbox hb; have BK196 := mk_ (hbox); have GW196 := mk_ (gb_ hg HB.out); have GE196 := mk_ (gb_ hg HB.out); replace HB := mk_ (below_step (below_at HB.out) hb); clear hb hbox hg; have hcz19_0 := blk_cell BK196.out 0; have hcz19_1 := blk_cell BK196.out 1; have hfz19_0 := blk_frozen BK196.out 0; have hfz19_1 := blk_frozen BK196.out 1))
    go_roundg k2
    case measure => have := HJ2.out; have := HK2.out; omega
    case rel => exact ⟨(wrap64 (x5_2 + 1)), (wrap64 (x23_2 + 1)), sm_, sm_, H', ⟨by have := HJ2.out; have := HK2.out; omega⟩, ⟨at_ HB.out⟩⟩
   rw [if_neg c11] at H
   have c11b0 : (((rd_T47 l1 x23_2).f0) == 0) = false := beq_eq_false_iff_ne.mpr c11
   have c11b1 : (((rd_T47 l1 x23_2).f0) != 0) = true := bne_iff_ne.mpr c11
   by_cases c20 : ((rd_T47 l1 x23_2).f0) = 1
   ·rw [if_pos c20] at H
    have c20b0 : (((rd_T47 l1 x23_2).f0) == 1) = true := beq_iff_eq.mpr c20
    have c20b1 : (((rd_T47 l1 x23_2).f0) != 1) = false := bne_eq_false_iff_eq.mpr c20
    clear c20
    by_cases c21 : ((rd_T47 l1 x23_2).f1) < 0
    ·rw [if_pos c21] at H
     have c21b0 : decide (((rd_T47 l1 x23_2).f1) < 0) = true := decide_eq_true c21
     clear c21
     obtain rfl := Option.some.inj H
     have p195 : 0 ≤ (x23_2 : Int) := oa_
     have q195 : x23_2 < (l1.length : Int) := oa_
     obtain ⟨ad195, e195, hx195_0, hx195_1⟩ := at_T47 HR1.out x23_2 p195 q195
     cases e195
     replace hx195_0 := cel HB.out hx195_0
     replace hx195_1 := cel HB.out hx195_1
     replace p195 := eq_true p195
     replace q195 := eq_true q195
     go_wp2_with (first | ((with_reducible refine gate_dst (N := 7) rfl ?_); (try (refine gate_guard (by rfl) ?_; dsimp only)); refine bx_ 7 #[.int .i64 0, .int .i64 0] 47 ?_; intro gb196 hg w22 hbox hb; have BK196 := mk_ (hbox); have GW196 := mk_ (gb_ hg HB.out); have GE196 := mk_ (gb_ hg HB.out); replace HB := mk_ (below_step (below_at HB.out) hb); clear hb hbox hg; have hcz23_0 := blk_cell BK196.out 0; have hcz23_1 := blk_cell BK196.out 1; have hfz23_0 := blk_frozen BK196.out 0; have hfz23_1 := blk_frozen BK196.out 1))
     go_ret
     exact ⟨er_, at_ HB.out⟩
    rw [if_neg c21] at H
    have c21b0 : decide (((rd_T47 l1 x23_2).f1) < 0) = false := decide_eq_false c21
    clear c21
    by_cases c24 : ((rd_T47 l1 x23_2).f1) > (wrap64 (a0 + 1))
    ·rw [if_pos c24] at H
     have c24b0 : decide ((wrap64 (a0 + 1)) < ((rd_T47 l1 x23_2).f1)) = true := decide_eq_true c24
     clear c24
     obtain rfl := Option.some.inj H
     have p195 : 0 ≤ (x23_2 : Int) := oa_
     have q195 : x23_2 < (l1.length : Int) := oa_
     obtain ⟨ad195, e195, hx195_0, hx195_1⟩ := at_T47 HR1.out x23_2 p195 q195
     cases e195
     replace hx195_0 := cel HB.out hx195_0
     replace hx195_1 := cel HB.out hx195_1
     replace p195 := eq_true p195
     replace q195 := eq_true q195
     go_wp2_with (first | ((with_reducible refine gate_dst (N := 7) rfl ?_); (try (refine gate_guard (by rfl) ?_; dsimp only)); refine bx_ 7 #[.int .i64 0, .int .i64 0] 47 ?_; intro gb196 hg w25 hbox hb; have BK196 := mk_ (hbox); have GW196 := mk_ (gb_ hg HB.out); have GE196 := mk_ (gb_ hg HB.out); replace HB := mk_ (below_step (below_at HB.out) hb); clear hb hbox hg; have hcz26_0 := blk_cell BK196.out 0; have hcz26_1 := blk_cell BK196.out 1; have hfz26_0 := blk_frozen BK196.out 0; have hfz26_1 := blk_frozen BK196.out 1))
     go_ret
     exact ⟨er_, at_ HB.out⟩
    rw [if_neg c24] at H
    have c24b0 : decide ((wrap64 (a0 + 1)) < ((rd_T47 l1 x23_2).f1)) = false := decide_eq_false c24
    clear c24
    have H' := mk_ H
    clear H
    have p195 : 0 ≤ (x23_2 : Int) := oa_
    have q195 : x23_2 < (l1.length : Int) := oa_
    obtain ⟨ad195, e195, hx195_0, hx195_1⟩ := at_T47 HR1.out x23_2 p195 q195
    cases e195
    replace hx195_0 := cel HB.out hx195_0
    replace hx195_1 := cel HB.out hx195_1
    replace p195 := eq_true p195
    replace q195 := eq_true q195
    go_wp2_with (first | ((with_reducible refine gate_dst (N := 7) rfl ?_); (try (refine gate_guard (by rfl) ?_; dsimp only)); refine bx_ 7 #[.int .i64 0, .int .i64 0] 47 ?_; intro gb196 hg w27 hbox hb; have BK196 := mk_ (hbox); have GW196 := mk_ (gb_ hg HB.out); have GE196 := mk_ (gb_ hg HB.out); replace HB := mk_ (below_step (below_at HB.out) hb); clear hb hbox hg; have hcz28_0 := blk_cell BK196.out 0; have hcz28_1 := blk_cell BK196.out 1; have hfz28_0 := blk_frozen BK196.out 0; have hfz28_1 := blk_frozen BK196.out 1))
    go_roundg k2
    case measure => have := HJ2.out; have := HK2.out; omega
    case rel => exact ⟨(wrap64 (x5_2 + 1)), (wrap64 (x23_2 + 1)), sm_, sm_, H', ⟨by have := HJ2.out; have := HK2.out; omega⟩, ⟨at_ HB.out⟩⟩
   rw [if_neg c20] at H
   have c20b0 : (((rd_T47 l1 x23_2).f0) == 1) = false := beq_eq_false_iff_ne.mpr c20
   have c20b1 : (((rd_T47 l1 x23_2).f0) != 1) = true := bne_iff_ne.mpr c20
   by_cases c29 : ((rd_T47 l1 x23_2).f0) = 2
   ·rw [if_pos c29] at H
    have c29b0 : (((rd_T47 l1 x23_2).f0) == 2) = true := beq_iff_eq.mpr c29
    have c29b1 : (((rd_T47 l1 x23_2).f0) != 2) = false := bne_eq_false_iff_eq.mpr c29
    clear c29
    by_cases c30 : ((rd_T47 l1 x23_2).f1) = 0
    rotate_left
    ·rw [if_neg c30] at H
     have c30b0 : (((rd_T47 l1 x23_2).f1) == 0) = false := beq_eq_false_iff_ne.mpr c30
     have c30b1 : (((rd_T47 l1 x23_2).f1) != 0) = true := bne_iff_ne.mpr c30
     obtain rfl := Option.some.inj H
     have p195 : 0 ≤ (x23_2 : Int) := oa_
     have q195 : x23_2 < (l1.length : Int) := oa_
     obtain ⟨ad195, e195, hx195_0, hx195_1⟩ := at_T47 HR1.out x23_2 p195 q195
     cases e195
     replace hx195_0 := cel HB.out hx195_0
     replace hx195_1 := cel HB.out hx195_1
     replace p195 := eq_true p195
     replace q195 := eq_true q195
     go_wp2_with (first | ((with_reducible refine gate_dst (N := 7) rfl ?_); (try (refine gate_guard (by rfl) ?_; dsimp only)); refine bx_ 7 #[.int .i64 0, .int .i64 0] 47 ?_; intro gb196 hg w36 hbox hb; have BK196 := mk_ (hbox); have GW196 := mk_ (gb_ hg HB.out); have GE196 := mk_ (gb_ hg HB.out); replace HB := mk_ (below_step (below_at HB.out) hb); clear hb hbox hg; have hcz37_0 := blk_cell BK196.out 0; have hcz37_1 := blk_cell BK196.out 1; have hfz37_0 := blk_frozen BK196.out 0; have hfz37_1 := blk_frozen BK196.out 1))
     go_ret
     exact ⟨er_, at_ HB.out⟩
    rw [if_pos c30] at H
    have c30b0 : (((rd_T47 l1 x23_2).f1) == 0) = true := beq_iff_eq.mpr c30
    have c30b1 : (((rd_T47 l1 x23_2).f1) != 0) = false := bne_eq_false_iff_eq.mpr c30
    clear c30
    by_cases c31 : x5_2 < 1
    ·rw [if_pos c31] at H
     have c31b0 : decide (x5_2 < 1) = true := decide_eq_true c31
     clear c31
     obtain rfl := Option.some.inj H
     have p195 : 0 ≤ (x23_2 : Int) := oa_
     have q195 : x23_2 < (l1.length : Int) := oa_
     obtain ⟨ad195, e195, hx195_0, hx195_1⟩ := at_T47 HR1.out x23_2 p195 q195
     cases e195
     replace hx195_0 := cel HB.out hx195_0
     replace hx195_1 := cel HB.out hx195_1
     replace p195 := eq_true p195
     replace q195 := eq_true q195
     go_wp2_with (first | ((with_reducible refine gate_dst (N := 7) rfl ?_); (try (refine gate_guard (by rfl) ?_; dsimp only)); refine bx_ 7 #[.int .i64 0, .int .i64 0] 47 ?_; intro gb196 hg w32 hbox hb; have BK196 := mk_ (hbox); have GW196 := mk_ (gb_ hg HB.out); have GE196 := mk_ (gb_ hg HB.out); replace HB := mk_ (below_step (below_at HB.out) hb); clear hb hbox hg; have hcz33_0 := blk_cell BK196.out 0; have hcz33_1 := blk_cell BK196.out 1; have hfz33_0 := blk_frozen BK196.out 0; have hfz33_1 := blk_frozen BK196.out 1))
     go_ret
     exact ⟨er_, at_ HB.out⟩
    rw [if_neg c31] at H
    have c31b0 : decide (x5_2 < 1) = false := decide_eq_false c31
    clear c31
    have H' := mk_ H
    clear H
    have p195 : 0 ≤ (x23_2 : Int) := oa_
    have q195 : x23_2 < (l1.length : Int) := oa_
    obtain ⟨ad195, e195, hx195_0, hx195_1⟩ := at_T47 HR1.out x23_2 p195 q195
    cases e195
    replace hx195_0 := cel HB.out hx195_0
    replace hx195_1 := cel HB.out hx195_1
    replace p195 := eq_true p195
    replace q195 := eq_true q195
    go_wp2_with (first | ((with_reducible refine gate_dst (N := 7) rfl ?_); (try (refine gate_guard (by rfl) ?_; dsimp only)); refine bx_ 7 #[.int .i64 0, .int .i64 0] 47 ?_; intro gb196 hg w34 hbox hb; have BK196 := mk_ (hbox); have GW196 := mk_ (gb_ hg HB.out); have GE196 := mk_ (gb_ hg HB.out); replace HB := mk_ (below_step (below_at HB.out) hb); clear hb hbox hg; have hcz35_0 := blk_cell BK196.out 0; have hcz35_1 := blk_cell BK196.out 1; have hfz35_0 := blk_frozen BK196.out 0; have hfz35_1 := blk_frozen BK196.out 1))
    go_roundg k2
    case measure => have := HJ2.out; have := HK2.out; omega
    case rel => exact ⟨(x5_2), (wrap64 (x23_2 + 1)), sm_, sm_, H', ⟨by have := HJ2.out; have := HK2.out; omega⟩, ⟨at_ HB.out⟩⟩
   rw [if_neg c29] at H
   have c29b0 : (((rd_T47 l1 x23_2).f0) == 2) = false := beq_eq_false_iff_ne.mpr c29
   have c29b1 : (((rd_T47 l1 x23_2).f0) != 2) = true := bne_iff_ne.mpr c29
   have HC38 := mk_ H
   clear H
   have p195 : 0 ≤ (x23_2 : Int) := oa_
   have q195 : x23_2 < (l1.length : Int) := oa_
   obtain ⟨ad195, e195, hx195_0, hx195_1⟩ := at_T47 HR1.out x23_2 p195 q195
   cases e195
   replace hx195_0 := cel HB.out hx195_0
   replace hx195_1 := cel HB.out hx195_1
   replace p195 := eq_true p195
   replace q195 := eq_true q195
   go_upto_if 65 with (first | ((with_reducible refine gate_dst (N := 7) rfl ?_); (try (refine gate_guard (by rfl) ?_; dsimp only)); refine bx_ 7 #[.int .i64 0, .int .i64 0] 47 ?_; intro gb196 hg w39 hbox hb; have BK196 := mk_ (hbox); have GW196 := mk_ (gb_ hg HB.out); have GE196 := mk_ (gb_ hg HB.out); replace HB := mk_ (below_step (below_at HB.out) hb); clear hb hbox hg; have hcz40_0 := blk_cell BK196.out 0; have hcz40_1 := blk_cell BK196.out 1; have hfz40_0 := blk_frozen BK196.out 0; have hfz40_1 := blk_frozen BK196.out 1))
   (try simp only [Act.put, z0_, z1_, z2_])
   go_cut [65] (fun v65 wc => ∃ (kq : Nat) (x65_37 : Bool), v65 = .bool x65_37 ∧ Aside0 (impl_TermOk.j2 kq a0 x5_2 l1 (l1.length : Int) x23_2 x65_37 ((rd_T47 l1 x23_2).f0) ((rd_T47 l1 x23_2).f1) = some r) ∧ Aside0 (kq ≤ k2) ∧ Aside0 (wc.heap[gb196]? = some (.cells #[.int .i64 ((rd_T47 l1 x23_2).f0), .int .i64 ((rd_T47 l1 x23_2).f1)] 47 (0, 0))) ∧ Aside0 (Below w.heap.size w wc))
   case first =>
    have H := HC38.out
    clear HC38
    by_cases c41 : ((rd_T47 l1 x23_2).f0) = 3
    ·rw [if_pos c41] at H
     have c41b0 : (((rd_T47 l1 x23_2).f0) == 3) = true := beq_iff_eq.mpr c41
     have c41b1 : (((rd_T47 l1 x23_2).f0) != 3) = false := bne_eq_false_iff_eq.mpr c41
     clear c41
     (first | rw [c41b0] | (simp only [i64_w, i32_w]; rw [c41b0]) | skip)
     have H' := mk_ H
     clear H
     go_wp2
     go_meet
     case rel => exact ⟨_, ((((rd_T47 l1 x23_2).f0) == 3)), sm_, H', ⟨by have := HJ2.out; have := HK2.out; first | omega | exact Nat.le_refl _⟩, ⟨by refine bs_ ?_; refine blk_put (cs := #[.int .i64 ((rd_T47 l1 x23_2).f0), .int .i64 0]) ?_ 1 _ rfl; refine bs_ ?_; refine blk_put (cs := #[.int .i64 0, .int .i64 0]) ?_ 0 _ rfl; refine bs_ ?_; exact BK196.out⟩, ⟨at_ HB.out⟩⟩
    rw [if_neg c41] at H
    have c41b0 : (((rd_T47 l1 x23_2).f0) == 3) = false := beq_eq_false_iff_ne.mpr c41
    have c41b1 : (((rd_T47 l1 x23_2).f0) != 3) = true := bne_iff_ne.mpr c41
    (first | rw [c41b0] | (simp only [i64_w, i32_w]; rw [c41b0]) | skip)
    by_cases c42 : ((rd_T47 l1 x23_2).f0) = 4
    ·rw [if_pos c42] at H
     have c42b0 : (((rd_T47 l1 x23_2).f0) == 4) = true := beq_iff_eq.mpr c42
     have c42b1 : (((rd_T47 l1 x23_2).f0) != 4) = false := bne_eq_false_iff_eq.mpr c42
     clear c42
     have H' := mk_ H
     clear H
     go_wp2
     go_meet
     case rel => exact ⟨_, ((((rd_T47 l1 x23_2).f0) == 4)), sm_, H', ⟨by have := HJ2.out; have := HK2.out; first | omega | exact Nat.le_refl _⟩, ⟨by refine bs_ ?_; refine blk_put (cs := #[.int .i64 ((rd_T47 l1 x23_2).f0), .int .i64 0]) ?_ 1 _ rfl; refine bs_ ?_; refine blk_put (cs := #[.int .i64 0, .int .i64 0]) ?_ 0 _ rfl; refine bs_ ?_; exact BK196.out⟩, ⟨at_ HB.out⟩⟩
    rw [if_neg c42] at H
    have c42b0 : (((rd_T47 l1 x23_2).f0) == 4) = false := beq_eq_false_iff_ne.mpr c42
    have c42b1 : (((rd_T47 l1 x23_2).f0) != 4) = true := bne_iff_ne.mpr c42
    have H' := mk_ H
    clear H
    go_wp2
    go_meet
    case rel => exact ⟨_, ((((rd_T47 l1 x23_2).f0) == 5)), sm_, H', ⟨by have := HJ2.out; have := HK2.out; first | omega | exact Nat.le_refl _⟩, ⟨by refine bs_ ?_; refine blk_put (cs := #[.int .i64 ((rd_T47 l1 x23_2).f0), .int .i64 0]) ?_ 1 _ rfl; refine bs_ ?_; refine blk_put (cs := #[.int .i64 0, .int .i64 0]) ?_ 0 _ rfl; refine bs_ ?_; exact BK196.out⟩, ⟨at_ HB.out⟩⟩
   clear HC38
   try clear c1
   try clear p1
   try clear q1
   try clear hx1
   try clear c2
   try clear p2
   try clear c3
   try clear c4
   try clear c5
   try clear c6
   try clear c6b0
   try clear c6b1
   try clear p6
   try clear c7
   try clear c8
   try clear c8b0
   try clear c9
   try clear c9b0
   try clear c10
   try clear c10b0
   try clear c11
   try clear c11b0
   try clear c11b1
   try clear c12
   try clear c12b0
   try clear c15
   try clear c15b0
   try clear p19
   try clear q19
   try clear hx19
   try clear c20
   try clear c20b0
   try clear c20b1
   try clear c21
   try clear c21b0
   try clear c24
   try clear c24b0
   try clear c29
   try clear c29b0
   try clear c29b1
   try clear c30
   try clear c30b0
   try clear c30b1
   try clear c31
   try clear c31b0
   try clear c41
   try clear c41b0
   try clear c41b1
   try clear c42
   try clear c42b0
   try clear c42b1
   try clear hcz14_0
   try clear hcz14_1
   try clear hcz17_0
   try clear hcz17_1
   try clear hcz19_0
   try clear hcz19_1
   try clear hcz23_0
   try clear hcz23_1
   try clear hcz26_0
   try clear hcz26_1
   try clear hcz28_0
   try clear hcz28_1
   try clear hcz33_0
   try clear hcz33_1
   try clear hcz35_0
   try clear hcz35_1
   try clear hcz37_0
   try clear hcz37_1
   try clear hcz40_0
   try clear hcz40_1
   try clear hfz14_0
   try clear hfz14_1
   try clear hfz17_0
   try clear hfz17_1
   try clear hfz19_0
   try clear hfz19_1
   try clear hfz23_0
   try clear hfz23_1
   try clear hfz26_0
   try clear hfz26_1
   try clear hfz28_0
   try clear hfz28_1
   try clear hfz33_0
   try clear hfz33_1
   try clear hfz35_0
   try clear hfz35_1
   try clear hfz37_0
   try clear hfz37_1
   try clear hfz40_0
   try clear hfz40_1
   try clear hx195_0
   try clear hx195_1
   try clear p195
   try clear p2
   try clear q195
   obtain ⟨kq, x65_37, rfl, HA, HJ37, BK196, HB⟩ := hcut
   cases kq with
   | zero => exact absurd HA.out (by simp [impl_TermOk.j2])
   | succ kj37 =>
    have H := HA.out
    clear HA
    simp only [impl_TermOk.j2] at H
    by_cases c43 : x65_37 = true
    rotate_left
    ·replace c43 := Bool.eq_false_iff.mpr c43
     subst c43
     rw [if_neg Bool.false_ne_true] at H
     obtain rfl := Option.some.inj H
     go_wp2
     go_ret
     exact ⟨er_, at_ HB.out⟩
    subst c43
    rw [if_pos rfl] at H
    by_cases c44 : ((rd_T47 l1 x23_2).f1) = 0
    rotate_left
    ·rw [if_neg c44] at H
     have c44b0 : (((rd_T47 l1 x23_2).f1) == 0) = false := beq_eq_false_iff_ne.mpr c44
     have c44b1 : (((rd_T47 l1 x23_2).f1) != 0) = true := bne_iff_ne.mpr c44
     obtain rfl := Option.some.inj H
     have hcz48_0 : wc.cell? ⟨gb196, 0, none⟩ = some (.int .i64 ((rd_T47 l1 x23_2).f0)) := (blk_cell BK196.out 0).trans rfl
     have hcz48_1 : wc.cell? ⟨gb196, 1, none⟩ = some (.int .i64 ((rd_T47 l1 x23_2).f1)) := (blk_cell BK196.out 1).trans rfl
     have hfz48_0 := blk_frozen BK196.out 0
     have hfz48_1 := blk_frozen BK196.out 1
     go_wp2
     go_ret
     exact ⟨er_, at_ HB.out⟩
    rw [if_pos c44] at H
    have c44b0 : (((rd_T47 l1 x23_2).f1) == 0) = true := beq_iff_eq.mpr c44
    have c44b1 : (((rd_T47 l1 x23_2).f1) != 0) = false := bne_eq_false_iff_eq.mpr c44
    clear c44
    by_cases c45 : x5_2 < 2
    ·rw [if_pos c45] at H
     have c45b0 : decide (x5_2 < 2) = true := decide_eq_true c45
     clear c45
     obtain rfl := Option.some.inj H
     have hcz46_0 : wc.cell? ⟨gb196, 0, none⟩ = some (.int .i64 ((rd_T47 l1 x23_2).f0)) := (blk_cell BK196.out 0).trans rfl
     have hcz46_1 : wc.cell? ⟨gb196, 1, none⟩ = some (.int .i64 ((rd_T47 l1 x23_2).f1)) := (blk_cell BK196.out 1).trans rfl
     have hfz46_0 := blk_frozen BK196.out 0
     have hfz46_1 := blk_frozen BK196.out 1
     go_wp2
     go_ret
     exact ⟨er_, at_ HB.out⟩
    rw [if_neg c45] at H
    have c45b0 : decide (x5_2 < 2) = false := decide_eq_false c45
    clear c45
    have H' := mk_ H
    clear H
    have hcz47_0 : wc.cell? ⟨gb196, 0, none⟩ = some (.int .i64 ((rd_T47 l1 x23_2).f0)) := (blk_cell BK196.out 0).trans rfl
    have hcz47_1 : wc.cell? ⟨gb196, 1, none⟩ = some (.int .i64 ((rd_T47 l1 x23_2).f1)) := (blk_cell BK196.out 1).trans rfl
    have hfz47_0 := blk_frozen BK196.out 0
    have hfz47_1 := blk_frozen BK196.out 1
    go_wp2
    go_roundg kj37
    case measure => have := HJ2.out; have := HK2.out; have := HJ37.out; omega
    case rel => exact ⟨(wrap64 (x5_2 - 1)), (wrap64 (x23_2 + 1)), sm_, sm_, H', ⟨by have := HJ2.out; have := HK2.out; have := HJ37.out; omega⟩, ⟨at_ HB.out⟩⟩
def impl_ClaimOk.f (k : Nat) (a0 : Int) (a1_0 : Int) (l1_1 : List (S47)) : Option (Bool) := (impl_peopleOk.f a0).bind fun t198 => (if t198 = true then (if a1_0 ≥ 0 then (if a1_0 < a0 then ((impl_TermOk.f k a0 l1_1).bind fun t199 => (if t199 = true then (some (decide ((l1_1.length : Int) ≤ 13))) else (some false))) else (some false)) else (some false)) else (some false))
set_option maxHeartbeats 8000000 in
set_option maxRecDepth 100000 in
theorem impl_ClaimOk.calls (k : Nat) (a0 : Int) (a1_0 : Int) (A1_1 : Option Addr) (c1_1 : Nat) (l1_1 : List (S47)) (r : Bool) (w : World) (hr1_1 : Kd.C k47 w A1_1 l1_1.length l1_1) (hc1_1 : l1_1.length ≤ c1_1) (h : impl_ClaimOk.f k a0 a1_0 l1_1 = some r) :
  Calls Try.prog 57 #[.int .i64 a0, .agg #[.int .i64 a1_0, .slice A1_1 l1_1.length c1_1]] w fun e w' => e = .returned (.bool r) ∧ Below w.heap.size w w' := by
 have hu38 := Try.underlying38
 have HR1_1 := mk_ hr1_1
 have HC1_1 := mk_ hc1_1
 clear hr1_1 hc1_1
 have HB := mk_ (Below.refl w.heap.size w)
 unfold impl_ClaimOk.f at h
 have H := h
 clear h
 replace H := Option.bind_eq_some_iff.mp H
 obtain ⟨t198, A30, H⟩ := H
 try dsimp only at H
 have A3 := mk_ A30
 clear A30
 by_cases c4 : t198 = true
 rotate_left
 ·replace c4 := Bool.eq_false_iff.mpr c4
  subst c4
  rw [if_neg Bool.false_ne_true] at H
  obtain rfl := Option.some.inj H
  go_enter Try.func57, Try.ntmps57
  go_wp2_with (first | ((with_reducible refine gate_dst (N := 3) rfl ?_); (try (refine gate_guard (by rfl) ?_; dsimp only)); refine bx_ 3 #[.int .i64 a1_0, .slice A1_1 l1_1.length c1_1] 38 ?_; intro gb197 hg w20 hbox hb; have GW197 := mk_ (gb_ hg HB.out); have GE197 := mk_ (gb_ hg HB.out); replace HB := mk_ (below_step (below_at HB.out) hb); clear hb hbox hg) | ((with_reducible refine gate_callee (f := 58) rfl ?_); refine goesL_ (some 6) rfl rfl Try.func58 (by kernel_rfl) rfl #[.int .i64 a0] rfl gl_ ?_; (with_reducible refine (impl_peopleOk.calls a0 false _ A3.out).mono ?_); rintro e w' ⟨rfl, ⟨nd, rfl⟩⟩; refine ⟨_, rfl, ?_⟩))
  go_ret
  exact ⟨er_, at_ HB.out⟩
 subst c4
 rw [if_pos rfl] at H
 by_cases c5 : a1_0 ≥ 0
 rotate_left
 ·rw [if_neg c5] at H
  have c5b0 : decide (0 ≤ a1_0) = false := decide_eq_false c5
  clear c5
  obtain rfl := Option.some.inj H
  go_enter Try.func57, Try.ntmps57
  go_wp2_with (first | ((with_reducible refine gate_dst (N := 3) rfl ?_); (try (refine gate_guard (by rfl) ?_; dsimp only)); refine bx_ 3 #[.int .i64 a1_0, .slice A1_1 l1_1.length c1_1] 38 ?_; intro gb197 hg w18 hbox hb; have BK197 := mk_ (hbox); have GW197 := mk_ (gb_ hg HB.out); have GE197 := mk_ (gb_ hg HB.out); replace HB := mk_ (below_step (below_at HB.out) hb); clear hb hbox hg) | ((with_reducible refine gate_callee (f := 58) rfl ?_); refine goesL_ (some 6) rfl rfl Try.func58 (by kernel_rfl) rfl #[.int .i64 a0] rfl gl_ ?_; (with_reducible refine (impl_peopleOk.calls a0 true _ A3.out).mono ?_); rintro e w' ⟨rfl, ⟨nd, rfl⟩⟩; refine ⟨_, rfl, ?_⟩; have hcz19_0 := blk_cell BK197.out 0; have hcz19_1 := blk_cell BK197.out 1; have hfz19_0 := blk_frozen BK197.out 0; have hfz19_1 := blk_frozen BK197.out 1))
  go_ret
  exact ⟨er_, at_ HB.out⟩
 rw [if_pos c5] at H
 have c5b0 : decide (0 ≤ a1_0) = true := decide_eq_true c5
 clear c5
 by_cases c6 : a1_0 < a0
 rotate_left
 ·rw [if_neg c6] at H
  have c6b0 : decide (a1_0 < a0) = false := decide_eq_false c6
  clear c6
  obtain rfl := Option.some.inj H
  go_enter Try.func57, Try.ntmps57
  go_wp2_with (first | ((with_reducible refine gate_dst (N := 3) rfl ?_); (try (refine gate_guard (by rfl) ?_; dsimp only)); refine bx_ 3 #[.int .i64 a1_0, .slice A1_1 l1_1.length c1_1] 38 ?_; intro gb197 hg w16 hbox hb; have BK197 := mk_ (hbox); have GW197 := mk_ (gb_ hg HB.out); have GE197 := mk_ (gb_ hg HB.out); replace HB := mk_ (below_step (below_at HB.out) hb); clear hb hbox hg) | ((with_reducible refine gate_callee (f := 58) rfl ?_); refine goesL_ (some 6) rfl rfl Try.func58 (by kernel_rfl) rfl #[.int .i64 a0] rfl gl_ ?_; (with_reducible refine (impl_peopleOk.calls a0 true _ A3.out).mono ?_); rintro e w' ⟨rfl, ⟨nd, rfl⟩⟩; refine ⟨_, rfl, ?_⟩; have hcz17_0 := blk_cell BK197.out 0; have hcz17_1 := blk_cell BK197.out 1; have hfz17_0 := blk_frozen BK197.out 0; have hfz17_1 := blk_frozen BK197.out 1))
  go_ret
  exact ⟨er_, at_ HB.out⟩
 rw [if_pos c6] at H
 have c6b0 : decide (a1_0 < a0) = true := decide_eq_true c6
 clear c6
 replace H := Option.bind_eq_some_iff.mp H
 obtain ⟨t199, A70, H⟩ := H
 try dsimp only at H
 have A7 := mk_ A70
 clear A70
 by_cases c8 : t199 = true
 ·subst c8
  rw [if_pos rfl] at H
  obtain rfl := Option.some.inj H
  go_enter Try.func57, Try.ntmps57
  go_wp2_with (first | ((with_reducible refine gate_dst (N := 3) rfl ?_); (try (refine gate_guard (by rfl) ?_; dsimp only)); refine bx_ 3 #[.int .i64 a1_0, .slice A1_1 l1_1.length c1_1] 38 ?_; intro gb197 hg w9 hbox hb; have BK197 := mk_ (hbox); have GW197 := mk_ (gb_ hg HB.out); have GE197 := mk_ (gb_ hg HB.out); replace HB := mk_ (below_step (below_at HB.out) hb); clear hb hbox hg) | ((with_reducible refine gate_callee (f := 58) rfl ?_); refine goesL_ (some 6) rfl rfl Try.func58 (by kernel_rfl) rfl #[.int .i64 a0] rfl gl_ ?_; (with_reducible refine (impl_peopleOk.calls a0 true _ A3.out).mono ?_); rintro e w' ⟨rfl, ⟨nd, rfl⟩⟩; refine ⟨_, rfl, ?_⟩; have hcz10_0 := blk_cell BK197.out 0; have hcz10_1 := blk_cell BK197.out 1; have hfz10_0 := blk_frozen BK197.out 0; have hfz10_1 := blk_frozen BK197.out 1) | (go_at_call 65; (with_reducible refine (impl_TermOk.calls k a0 _ _ l1_1 true _ ?side1 ?side2 A7.out).mono ?_); (case side1 => repeat (first | exact (Kd.C_below HR1_1.out (at_ HB.out)) | (with_reducible refine Kd.C_alloc ?_ _) | (with_reducible refine Kd.C_drewN ?_ _) | (with_reducible refine Kd.C_drew ?_))); (case side2 => exact HC1_1.out); rintro e w11 ⟨rfl, hb⟩; replace BK197 := mk_ (blk_at BK197.out hb); replace HB := mk_ (below_step (at_ HB.out) hb); (try clear hb); have hcz12_0 := blk_cell BK197.out 0; have hcz12_1 := blk_cell BK197.out 1; have hfz12_0 := blk_frozen BK197.out 0; have hfz12_1 := blk_frozen BK197.out 1))
  go_ret
  exact ⟨er_, at_ HB.out⟩
 replace c8 := Bool.eq_false_iff.mpr c8
 subst c8
 rw [if_neg Bool.false_ne_true] at H
 obtain rfl := Option.some.inj H
 go_enter Try.func57, Try.ntmps57
 go_wp2_with (first | ((with_reducible refine gate_dst (N := 3) rfl ?_); (try (refine gate_guard (by rfl) ?_; dsimp only)); refine bx_ 3 #[.int .i64 a1_0, .slice A1_1 l1_1.length c1_1] 38 ?_; intro gb197 hg w13 hbox hb; have BK197 := mk_ (hbox); have GW197 := mk_ (gb_ hg HB.out); have GE197 := mk_ (gb_ hg HB.out); replace HB := mk_ (below_step (below_at HB.out) hb); clear hb hbox hg) | ((with_reducible refine gate_callee (f := 58) rfl ?_); refine goesL_ (some 6) rfl rfl Try.func58 (by kernel_rfl) rfl #[.int .i64 a0] rfl gl_ ?_; (with_reducible refine (impl_peopleOk.calls a0 true _ A3.out).mono ?_); rintro e w' ⟨rfl, ⟨nd, rfl⟩⟩; refine ⟨_, rfl, ?_⟩; have hcz14_0 := blk_cell BK197.out 0; have hcz14_1 := blk_cell BK197.out 1; have hfz14_0 := blk_frozen BK197.out 0; have hfz14_1 := blk_frozen BK197.out 1) | (go_at_call 65; (with_reducible refine (impl_TermOk.calls k a0 _ _ l1_1 false _ ?side1 ?side2 A7.out).mono ?_); (case side1 => repeat (first | exact (Kd.C_below HR1_1.out (at_ HB.out)) | (with_reducible refine Kd.C_alloc ?_ _) | (with_reducible refine Kd.C_drewN ?_ _) | (with_reducible refine Kd.C_drew ?_))); (case side2 => exact HC1_1.out); rintro e w15 ⟨rfl, hb⟩; replace HB := mk_ (below_step (at_ HB.out) hb); (try clear BK197); (try clear hb)))
 go_ret
 exact ⟨er_, at_ HB.out⟩
def impl_StoryOk.l0 : Nat → Int → List (S38) → List (S38) → Int → Int → Option (Bool)
 | 0, _, _, _, _, _ => none
 | k + 1, x0, x1, x7, x8, x9 => if x9 < x8 then (if 0 ≤ x9 then (if x9 < (x7.length : Int) then ((impl_ClaimOk.f k x0 ((rd_T38 x7 x9).f0) ((rd_T38 x7 x9).f1)).bind fun t202 => (if t202 = true then (impl_StoryOk.l0 k x0 x1 x7 x8 (wrap64 (x9 + 1))) else (some false))) else (none)) else (none)) else ((impl_peopleOk.f x0).bind fun t203 => (if t203 = true then (some (decide ((x1.length : Int) ≤ 6))) else (some false)))
def impl_StoryOk.f (k : Nat) (a0 : Int) (l1 : List (S38)) : Option (Bool) := impl_StoryOk.l0 k a0 l1 l1 (l1.length : Int) 0
set_option maxHeartbeats 8000000 in
set_option maxRecDepth 100000 in
theorem impl_StoryOk.calls (k : Nat) (a0 : Int) (A1 : Option Addr) (c1 : Nat) (l1 : List (S38)) (r : Bool) (w : World) (hr1 : Kd.C k38 w A1 l1.length l1) (hc1 : l1.length ≤ c1) (h : impl_StoryOk.f k a0 l1 = some r) :
  Calls Try.prog 20 #[.int .i64 a0, .slice A1 l1.length c1] w fun e w' => e = .returned (.bool r) ∧ Below w.heap.size w w' := by
 have hu38 := Try.underlying38
 have HR1 := mk_ hr1
 have HC1 := mk_ hc1
 clear hr1 hc1
 have HB := mk_ (Below.refl w.heap.size w)
 have H : (impl_StoryOk.l0 k a0 l1 l1 (l1.length : Int) 0) = some r := h
 clear h
 have H' := mk_ H
 clear H
 go_enter Try.func20, Try.ntmps20
 go_wp2
 go_loopg [9] k (fun kq v9 w' => ∃ (x9_1 : Int), v9 = .int .i64 x9_1 ∧ Aside0 (impl_StoryOk.l0 kq a0 l1 l1 (l1.length : Int) x9_1 = some r) ∧ Aside0 (kq ≤ k) ∧ Aside0 (Below w.heap.size w w'))
 case atStart => exact ⟨(0), sm_, H', ⟨Nat.le_refl _⟩, ⟨below_at HB.out⟩⟩
 clear H'
 try clear c1
 try clear c2
 try clear p2
 obtain ⟨x9_1, rfl, HA, HK1, HB⟩ := hrel
 cases gk with
 | zero => exact absurd HA.out (by simp [impl_StoryOk.l0])
 | succ k1 =>
  have H := HA.out
  clear HA
  simp only [impl_StoryOk.l0] at H
  by_cases c3 : x9_1 < (l1.length : Int)
  rotate_left
  ·rw [if_neg c3] at H
   have c3b0 : decide (x9_1 < (l1.length : Int)) = false := decide_eq_false c3
   clear c3
   replace H := Option.bind_eq_some_iff.mp H
   obtain ⟨t203, A140, H⟩ := H
   try dsimp only at H
   have A14 := mk_ A140
   clear A140
   by_cases c15 : t203 = true
   ·subst c15
    rw [if_pos rfl] at H
    obtain rfl := Option.some.inj H
    go_wp2_with (first | ((with_reducible refine gate_callee (f := 58) rfl ?_); refine goesL_ (some 19) rfl rfl Try.func58 (by kernel_rfl) rfl #[.int .i64 a0] rfl gl_ ?_; (with_reducible refine (impl_peopleOk.calls a0 true _ A14.out).mono ?_); rintro e w' ⟨rfl, ⟨nd, rfl⟩⟩; refine ⟨_, rfl, ?_⟩))
    go_ret
    exact ⟨er_, below_at HB.out⟩
   replace c15 := Bool.eq_false_iff.mpr c15
   subst c15
   rw [if_neg Bool.false_ne_true] at H
   obtain rfl := Option.some.inj H
   go_wp2_with (first | ((with_reducible refine gate_callee (f := 58) rfl ?_); refine goesL_ (some 19) rfl rfl Try.func58 (by kernel_rfl) rfl #[.int .i64 a0] rfl gl_ ?_; (with_reducible refine (impl_peopleOk.calls a0 false _ A14.out).mono ?_); rintro e w' ⟨rfl, ⟨nd, rfl⟩⟩; refine ⟨_, rfl, ?_⟩))
   go_ret
   exact ⟨er_, below_at HB.out⟩
  rw [if_pos c3] at H
  have c3b0 : decide (x9_1 < (l1.length : Int)) = true := decide_eq_true c3
  clear c3
  by_cases c4 : 0 ≤ x9_1
  rotate_left
  ·rw [if_neg c4] at H
   exact absurd H (by simp)
  rw [if_pos c4] at H
  have c4b0 : decide (0 ≤ x9_1) = true := decide_eq_true c4
  clear c4
  by_cases c5 : x9_1 < (l1.length : Int)
  rotate_left
  ·rw [if_neg c5] at H
   exact absurd H (by simp)
  rw [if_pos c5] at H
  have c5b0 : decide (x9_1 < (l1.length : Int)) = true := decide_eq_true c5
  clear c5
  replace H := Option.bind_eq_some_iff.mp H
  obtain ⟨t202, A60, H⟩ := H
  try dsimp only at H
  have A6 := mk_ A60
  clear A60
  by_cases c7 : t202 = true
  ·subst c7
   rw [if_pos rfl] at H
   have H' := mk_ H
   clear H
   have p200 : 0 ≤ (x9_1 : Int) := oa_
   have q200 : x9_1 < (l1.length : Int) := oa_
   obtain ⟨ad200, A200_1, c200_1, e200, hx200_0, hx200_1, hl200_1, hi200_1⟩ := at_T38 HR1.out x9_1 p200 q200
   cases e200
   replace hx200_0 := cel HB.out hx200_0
   replace hx200_1 := cel HB.out hx200_1
   have HR200_1 := mk_ hi200_1
   have HC200_1 := mk_ hl200_1
   clear hi200_1 hl200_1
   replace p200 := eq_true p200
   replace q200 := eq_true q200
   go_wp2_with (first | ((with_reducible refine gate_dst (N := 6) rfl ?_); (try (refine gate_guard (by rfl) ?_; dsimp only)); refine bx_ 6 #[.int .i64 0, .slice none 0 0] 38 ?_; intro gb201 hg w8 hbox hb; have BK201 := mk_ (hbox); have GW201 := mk_ (gb_ hg HB.out); have GE201 := mk_ (gb_ hg HB.out); replace HB := mk_ (below_step (below_at HB.out) hb); clear hb hbox hg; have hcz9_0 := blk_cell BK201.out 0; have hcz9_1 := blk_cell BK201.out 1; have hfz9_0 := blk_frozen BK201.out 0; have hfz9_1 := blk_frozen BK201.out 1) | ((with_reducible refine gate_callee (f := 57) rfl ?_); refine goesL_ (some 15) rfl rfl Try.func57 (by kernel_rfl) rfl #[.int .i64 a0, .agg #[.int .i64 ((rd_T38 l1 x9_1).f0), .slice A200_1 ((rd_T38 l1 x9_1).f1).length c200_1]] rfl gl_ ?_; (with_reducible refine (impl_ClaimOk.calls k1 a0 ((rd_T38 l1 x9_1).f0) _ _ ((rd_T38 l1 x9_1).f1) true _ ?side1 ?side2 A6.out).mono ?_); (case side1 => exact Kd.C_below HR200_1.out (at_ HB.out)); (case side2 => exact HC200_1.out); rintro e w10 ⟨rfl, hb⟩; refine ⟨_, rfl, ?_⟩; replace HB := mk_ (below_step (at_ HB.out) hb); (try clear BK201); (try clear hb)))
   go_roundg k1
   case measure => have := HK1.out; omega
   case rel => exact ⟨(wrap64 (x9_1 + 1)), sm_, H', ⟨by have := HK1.out; omega⟩, ⟨at_ HB.out⟩⟩
  replace c7 := Bool.eq_false_iff.mpr c7
  subst c7
  rw [if_neg Bool.false_ne_true] at H
  obtain rfl := Option.some.inj H
  have p200 : 0 ≤ (x9_1 : Int) := oa_
  have q200 : x9_1 < (l1.length : Int) := oa_
  obtain ⟨ad200, A200_1, c200_1, e200, hx200_0, hx200_1, hl200_1, hi200_1⟩ := at_T38 HR1.out x9_1 p200 q200
  cases e200
  replace hx200_0 := cel HB.out hx200_0
  replace hx200_1 := cel HB.out hx200_1
  have HR200_1 := mk_ hi200_1
  have HC200_1 := mk_ hl200_1
  clear hi200_1 hl200_1
  replace p200 := eq_true p200
  replace q200 := eq_true q200
  go_wp2_with (first | ((with_reducible refine gate_dst (N := 6) rfl ?_); (try (refine gate_guard (by rfl) ?_; dsimp only)); refine bx_ 6 #[.int .i64 0, .slice none 0 0] 38 ?_; intro gb201 hg w11 hbox hb; have BK201 := mk_ (hbox); have GW201 := mk_ (gb_ hg HB.out); have GE201 := mk_ (gb_ hg HB.out); replace HB := mk_ (below_step (below_at HB.out) hb); clear hb hbox hg; have hcz12_0 := blk_cell BK201.out 0; have hcz12_1 := blk_cell BK201.out 1; have hfz12_0 := blk_frozen BK201.out 0; have hfz12_1 := blk_frozen BK201.out 1) | ((with_reducible refine gate_callee (f := 57) rfl ?_); refine goesL_ (some 15) rfl rfl Try.func57 (by kernel_rfl) rfl #[.int .i64 a0, .agg #[.int .i64 ((rd_T38 l1 x9_1).f0), .slice A200_1 ((rd_T38 l1 x9_1).f1).length c200_1]] rfl gl_ ?_; (with_reducible refine (impl_ClaimOk.calls k1 a0 ((rd_T38 l1 x9_1).f0) _ _ ((rd_T38 l1 x9_1).f1) false _ ?side1 ?side2 A6.out).mono ?_); (case side1 => exact Kd.C_below HR200_1.out (at_ HB.out)); (case side2 => exact HC200_1.out); rintro e w13 ⟨rfl, hb⟩; refine ⟨_, rfl, ?_⟩; replace HB := mk_ (below_step (at_ HB.out) hb); (try clear BK201); (try clear hb)))
  go_ret
  exact ⟨er_, at_ HB.out⟩
-- NOT PRINTED: function 93 (impl_tableBy)
-- NOT PRINTED: function 115 (bits_OnesCount32)
def bits_OnesCount64.f (a0 : Int) : Option (Int) := some (Go.bits .and .i64 (wrap64 (IntKind.u64.wrap ((IntKind.u64.wrap ((IntKind.u64.wrap ((Go.bits .and .u64 (IntKind.u64.wrap (((IntKind.u64.wrap ((Go.bits .and .u64 ((IntKind.u64.wrap ((Go.bits .and .u64 (a0 / 2) 6148914691236517205) + (Go.bits .and .u64 a0 6148914691236517205))) / 4) 3689348814741910323) + (Go.bits .and .u64 (IntKind.u64.wrap ((Go.bits .and .u64 (a0 / 2) 6148914691236517205) + (Go.bits .and .u64 a0 6148914691236517205))) 3689348814741910323))) / 16) + (IntKind.u64.wrap ((Go.bits .and .u64 ((IntKind.u64.wrap ((Go.bits .and .u64 (a0 / 2) 6148914691236517205) + (Go.bits .and .u64 a0 6148914691236517205))) / 4) 3689348814741910323) + (Go.bits .and .u64 (IntKind.u64.wrap ((Go.bits .and .u64 (a0 / 2) 6148914691236517205) + (Go.bits .and .u64 a0 6148914691236517205))) 3689348814741910323))))) 1085102592571150095) + ((Go.bits .and .u64 (IntKind.u64.wrap (((IntKind.u64.wrap ((Go.bits .and .u64 ((IntKind.u64.wrap ((Go.bits .and .u64 (a0 / 2) 6148914691236517205) + (Go.bits .and .u64 a0 6148914691236517205))) / 4) 3689348814741910323) + (Go.bits .and .u64 (IntKind.u64.wrap ((Go.bits .and .u64 (a0 / 2) 6148914691236517205) + (Go.bits .and .u64 a0 6148914691236517205))) 3689348814741910323))) / 16) + (IntKind.u64.wrap ((Go.bits .and .u64 ((IntKind.u64.wrap ((Go.bits .and .u64 (a0 / 2) 6148914691236517205) + (Go.bits .and .u64 a0 6148914691236517205))) / 4) 3689348814741910323) + (Go.bits .and .u64 (IntKind.u64.wrap ((Go.bits .and .u64 (a0 / 2) 6148914691236517205) + (Go.bits .and .u64 a0 6148914691236517205))) 3689348814741910323))))) 1085102592571150095) / 256))) + ((IntKind.u64.wrap ((Go.bits .and .u64 (IntKind.u64.wrap (((IntKind.u64.wrap ((Go.bits .and .u64 ((IntKind.u64.wrap ((Go.bits .and .u64 (a0 / 2) 6148914691236517205) + (Go.bits .and .u64 a0 6148914691236517205))) / 4) 3689348814741910323) + (Go.bits .and .u64 (IntKind.u64.wrap ((Go.bits .and .u64 (a0 / 2) 6148914691236517205) + (Go.bits .and .u64 a0 6148914691236517205))) 3689348814741910323))) / 16) + (IntKind.u64.wrap ((Go.bits .and .u64 ((IntKind.u64.wrap ((Go.bits .and .u64 (a0 / 2) 6148914691236517205) + (Go.bits .and .u64 a0 6148914691236517205))) / 4) 3689348814741910323) + (Go.bits .and .u64 (IntKind.u64.wrap ((Go.bits .and .u64 (a0 / 2) 6148914691236517205) + (Go.bits .and .u64 a0 6148914691236517205))) 3689348814741910323))))) 1085102592571150095) + ((Go.bits .and .u64 (IntKind.u64.wrap (((IntKind.u64.wrap ((Go.bits .and .u64 ((IntKind.u64.wrap ((Go.bits .and .u64 (a0 / 2) 6148914691236517205) + (Go.bits .and .u64 a0 6148914691236517205))) / 4) 3689348814741910323) + (Go.bits .and .u64 (IntKind.u64.wrap ((Go.bits .and .u64 (a0 / 2) 6148914691236517205) + (Go.bits .and .u64 a0 6148914691236517205))) 3689348814741910323))) / 16) + (IntKind.u64.wrap ((Go.bits .and .u64 ((IntKind.u64.wrap ((Go.bits .and .u64 (a0 / 2) 6148914691236517205) + (Go.bits .and .u64 a0 6148914691236517205))) / 4) 3689348814741910323) + (Go.bits .and .u64 (IntKind.u64.wrap ((Go.bits .and .u64 (a0 / 2) 6148914691236517205) + (Go.bits .and .u64 a0 6148914691236517205))) 3689348814741910323))))) 1085102592571150095) / 256))) / 65536))) + ((IntKind.u64.wrap ((IntKind.u64.wrap ((Go.bits .and .u64 (IntKind.u64.wrap (((IntKind.u64.wrap ((Go.bits .and .u64 ((IntKind.u64.wrap ((Go.bits .and .u64 (a0 / 2) 6148914691236517205) + (Go.bits .and .u64 a0 6148914691236517205))) / 4) 3689348814741910323) + (Go.bits .and .u64 (IntKind.u64.wrap ((Go.bits .and .u64 (a0 / 2) 6148914691236517205) + (Go.bits .and .u64 a0 6148914691236517205))) 3689348814741910323))) / 16) + (IntKind.u64.wrap ((Go.bits .and .u64 ((IntKind.u64.wrap ((Go.bits .and .u64 (a0 / 2) 6148914691236517205) + (Go.bits .and .u64 a0 6148914691236517205))) / 4) 3689348814741910323) + (Go.bits .and .u64 (IntKind.u64.wrap ((Go.bits .and .u64 (a0 / 2) 6148914691236517205) + (Go.bits .and .u64 a0 6148914691236517205))) 3689348814741910323))))) 1085102592571150095) + ((Go.bits .and .u64 (IntKind.u64.wrap (((IntKind.u64.wrap ((Go.bits .and .u64 ((IntKind.u64.wrap ((Go.bits .and .u64 (a0 / 2) 6148914691236517205) + (Go.bits .and .u64 a0 6148914691236517205))) / 4) 3689348814741910323) + (Go.bits .and .u64 (IntKind.u64.wrap ((Go.bits .and .u64 (a0 / 2) 6148914691236517205) + (Go.bits .and .u64 a0 6148914691236517205))) 3689348814741910323))) / 16) + (IntKind.u64.wrap ((Go.bits .and .u64 ((IntKind.u64.wrap ((Go.bits .and .u64 (a0 / 2) 6148914691236517205) + (Go.bits .and .u64 a0 6148914691236517205))) / 4) 3689348814741910323) + (Go.bits .and .u64 (IntKind.u64.wrap ((Go.bits .and .u64 (a0 / 2) 6148914691236517205) + (Go.bits .and .u64 a0 6148914691236517205))) 3689348814741910323))))) 1085102592571150095) / 256))) + ((IntKind.u64.wrap ((Go.bits .and .u64 (IntKind.u64.wrap (((IntKind.u64.wrap ((Go.bits .and .u64 ((IntKind.u64.wrap ((Go.bits .and .u64 (a0 / 2) 6148914691236517205) + (Go.bits .and .u64 a0 6148914691236517205))) / 4) 3689348814741910323) + (Go.bits .and .u64 (IntKind.u64.wrap ((Go.bits .and .u64 (a0 / 2) 6148914691236517205) + (Go.bits .and .u64 a0 6148914691236517205))) 3689348814741910323))) / 16) + (IntKind.u64.wrap ((Go.bits .and .u64 ((IntKind.u64.wrap ((Go.bits .and .u64 (a0 / 2) 6148914691236517205) + (Go.bits .and .u64 a0 6148914691236517205))) / 4) 3689348814741910323) + (Go.bits .and .u64 (IntKind.u64.wrap ((Go.bits .and .u64 (a0 / 2) 6148914691236517205) + (Go.bits .and .u64 a0 6148914691236517205))) 3689348814741910323))))) 1085102592571150095) + ((Go.bits .and .u64 (IntKind.u64.wrap (((IntKind.u64.wrap ((Go.bits .and .u64 ((IntKind.u64.wrap ((Go.bits .and .u64 (a0 / 2) 6148914691236517205) + (Go.bits .and .u64 a0 6148914691236517205))) / 4) 3689348814741910323) + (Go.bits .and .u64 (IntKind.u64.wrap ((Go.bits .and .u64 (a0 / 2) 6148914691236517205) + (Go.bits .and .u64 a0 6148914691236517205))) 3689348814741910323))) / 16) + (IntKind.u64.wrap ((Go.bits .and .u64 ((IntKind.u64.wrap ((Go.bits .and .u64 (a0 / 2) 6148914691236517205) + (Go.bits .and .u64 a0 6148914691236517205))) / 4) 3689348814741910323) + (Go.bits .and .u64 (IntKind.u64.wrap ((Go.bits .and .u64 (a0 / 2) 6148914691236517205) + (Go.bits .and .u64 a0 6148914691236517205))) 3689348814741910323))))) 1085102592571150095) / 256))) / 65536))) / 4294967296)))) 127)
set_option maxHeartbeats 8000000 in
set_option maxRecDepth 100000 in
theorem bits_OnesCount64.calls (a0 : Int) (r : Int) (w : World) (h : bits_OnesCount64.f a0 = some r) :
  Calls Try.prog 116 #[.int .u64 a0] w fun e w' => e = .returned (.int .i64 r) ∧ Drawn0 w w' := by
 unfold bits_OnesCount64.f at h
 have H := h
 clear h
 obtain rfl := Option.some.inj H
 go_enter Try.func116, Try.ntmps116
 go_wp2
 go_ret
 exact ⟨sm_, by repeat (first | exact Drawn0.refl _ | apply Drawn0.step)⟩
end Go.Proofs.Ytcaogllnbpmcgaa.P

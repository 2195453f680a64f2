/- Go's functions come to just the answers of the Lean functions told here. -/
import Derived.Test.YtcaogllnbpmcgaaDoorPx16
namespace Go.Proofs.YtcaogllnbpmcgaaDoor.P
open Go.RowKit Go.Proofs.YtcaogllnbpmcgaaDoorW.PrintWords Go.Proofs.YtcaogllnbpmcgaaDoorW.PrintLast Go.Proofs.YtcaogllnbpmcgaaDoorW.PrintMore
attribute [local go_sem] max2_int min2_int max_two min_two max_three min_three max_four min_four
set_option linter.unusedVariables false
set_option linter.unusedSimpArgs false

/-! ### laws_eqMarkS: function 20 -/
def laws_eqMarkS.l0 : Nat → List (S82) → List (S82) → Int → Option (Bool)
 | 0, _, _, _ => none
 | k + 1, x0, x1, x5 => if x5 < (x0.length : Int) then (if 0 ≤ x5 then (if x5 < (x1.length : Int) then ((laws_eqMark.f ((rd_T82 x0 x5).f0) ((rd_T82 x0 x5).f1) ((rd_T82 x1 x5).f0) ((rd_T82 x1 x5).f1)).bind fun t208 => (if t208 = true then (laws_eqMarkS.l0 k x0 x1 (wrap64 (x5 + 1))) else (some false))) else (none)) else (none)) else (some true)
def laws_eqMarkS.f (k : Nat) (l0 : List (S82)) (l1 : List (S82)) : Option (Bool) := if (l0.length : Int) = (l1.length : Int) then (laws_eqMarkS.l0 k l0 l1 0) else (some false)
def laws_eqMarkS.T6 : Bool × List (List Nat × List Nat) := (true, [([], []), ([], []), ([0, 1], [0, 1]), ([2], [2]), ([], []), ([], []), ([4, 5], [4, 5]), ([6], [6]), ([3, 7], [3, 7]), ([8], [8])])
def laws_eqMarkS.B6 : List Nat := [0, 0, 3, 7, 0, 0, 48, 112, 255, 511]
theorem laws_eqMarkS.tab6 : rtab .any (opsOf Tryd.f20 6) = laws_eqMarkS.T6 := by kernel_rfl
theorem laws_eqMarkS.bits6 : waitsOk laws_eqMarkS.T6.2 laws_eqMarkS.B6 = true := by kernel_rfl
set_option maxHeartbeats 8000000 in
set_option maxRecDepth 100000 in
theorem laws_eqMarkS.calls (k : Nat) (A0 : Option Addr) (c0 : Nat) (l0 : List (S82)) (A1 : Option Addr) (c1 : Nat) (l1 : List (S82)) (r : Bool) (w : World) (hr0 : Kd.C k82 w A0 l0.length l0) (hc0 : l0.length ≤ c0) (hr1 : Kd.C k82 w A1 l1.length l1) (hc1 : l1.length ≤ c1) (h : laws_eqMarkS.f k l0 l1 = some r) :
  Calls Tryd.prog 20 #[.slice A0 l0.length c0, .slice A1 l1.length c1] w fun e w' => e = .returned (.bool r) ∧ Below w.heap.size w w' := by
 have hu82 := Tryd.underlying82
 have HR0 := mk_ hr0
 have HC0 := mk_ hc0
 clear hr0 hc0
 have HR1 := mk_ hr1
 have HC1 := mk_ hc1
 clear hr1 hc1
 have HB := mk_ (Below.refl w.heap.size w)
 have H : (if (l0.length : Int) = (l1.length : Int) then (laws_eqMarkS.l0 k l0 l1 0) else (some false)) = some r := h
 clear h
 by_cases c3 : (l0.length : Int) = (l1.length : Int)
 rotate_left
 ·rw [if_neg c3] at H
  have c3b0 : ((l0.length : Int) == (l1.length : Int)) = false := beq_eq_false_iff_ne.mpr c3
  have c3b1 : ((l0.length : Int) != (l1.length : Int)) = true := bne_iff_ne.mpr c3
  have c3b2 : (l0.length == l1.length) = false := by first | simpa using c3 | (simp at c3 ⊢; omega)
  obtain rfl := Option.some.inj H
  go_enter Tryd.func20, Tryd.ntmps20
  go_wp2
  go_ret
  exact ⟨er_, below_at HB.out⟩
 rw [if_pos c3] at H
 have c3b0 : ((l0.length : Int) == (l1.length : Int)) = true := beq_iff_eq.mpr c3
 have c3b1 : ((l0.length : Int) != (l1.length : Int)) = false := bne_eq_false_iff_eq.mpr c3
 have c3b2 : (l0.length == l1.length) = true := by first | simpa using c3 | (simp at c3 ⊢; omega)
 clear c3
 have H' := mk_ H
 clear H
 go_enter Tryd.func20, Tryd.ntmps20
 go_wp2
 go_loopg [5] k (fun kq v5 w' => ∃ (x5_1 : Int), v5 = .int .i64 x5_1 ∧ Aside0 (laws_eqMarkS.l0 kq l0 l1 x5_1 = some r) ∧ Aside0 (kq ≤ k) ∧ Aside0 (Below w.heap.size w w'))
 case atStart => exact ⟨(0), sm_, H', ⟨Nat.le_refl _⟩, ⟨below_at HB.out⟩⟩
 clear H'
 try clear c1
 try clear c2
 try clear p2
 try clear c3
 try clear c3b0
 try clear c3b1
 try clear c3b2
 obtain ⟨x5_1, rfl, HA, HK1, HB⟩ := hrel
 cases gk with
 | zero => exact absurd HA.out (by simp [laws_eqMarkS.l0])
 | succ k1 =>
  have H := HA.out
  clear HA
  simp only [laws_eqMarkS.l0] at H
  by_cases c4 : x5_1 < (l0.length : Int)
  rotate_left
  ·rw [if_neg c4] at H
   have c4b0 : decide (x5_1 < (l0.length : Int)) = false := decide_eq_false c4
   clear c4
   obtain rfl := Option.some.inj H
   go_wp2
   go_ret
   exact ⟨er_, below_at HB.out⟩
  rw [if_pos c4] at H
  have c4b0 : decide (x5_1 < (l0.length : Int)) = true := decide_eq_true c4
  clear c4
  by_cases c5 : 0 ≤ x5_1
  rotate_left
  ·rw [if_neg c5] at H
   exact absurd H (by simp)
  rw [if_pos c5] at H
  have c5b0 : decide (0 ≤ x5_1) = true := decide_eq_true c5
  clear c5
  by_cases c6 : x5_1 < (l1.length : Int)
  rotate_left
  ·rw [if_neg c6] at H
   exact absurd H (by simp)
  rw [if_pos c6] at H
  have c6b0 : decide (x5_1 < (l1.length : Int)) = true := decide_eq_true c6
  clear c6
  replace H := Option.bind_eq_some_iff.mp H
  obtain ⟨t208, A70, H⟩ := H
  try dsimp only at H
  have A7 := mk_ A70
  clear A70
  by_cases c8 : t208 = true
  ·subst c8
   rw [if_pos rfl] at H
   have H' := mk_ H
   clear H
   try go_wp2
   replace HB := mk_ (below_drew1 HB.out)
   have p206 : 0 ≤ (x5_1 : Int) := oa_
   have q206 : x5_1 < (l0.length : Int) := oa_
   obtain ⟨ad206, e206, hx206_0, hx206_1⟩ := at_T82 HR0.out x5_1 p206 q206
   have hw206_1 := hx206_1
   have hw206_0 := hx206_0
   cases e206
   replace hx206_0 := cel HB.out hx206_0
   replace hx206_1 := cel HB.out hx206_1
   replace p206 := eq_true p206
   replace q206 := eq_true q206
   have p207 : 0 ≤ (x5_1 : Int) := oa_
   have q207 : x5_1 < (l1.length : Int) := oa_
   obtain ⟨ad207, e207, hx207_0, hx207_1⟩ := at_T82 HR1.out x5_1 p207 q207
   have hw207_1 := hx207_1
   have hw207_0 := hx207_0
   cases e207
   replace hx207_0 := cel HB.out hx207_0
   replace hx207_1 := cel HB.out hx207_1
   replace p207 := eq_true p207
   replace q207 := eq_true q207
   refine start_ (n := 10) (S := fun w' => w'.cell? (ad206.add ((x5_1).toNat * 2)) = some (.int .i64 ((rd_T82 l0 x5_1).f0)) ∧ w'.cell? ⟨(ad206.add ((x5_1).toNat * 2)).block, (ad206.add ((x5_1).toNat * 2)).off + 1, none⟩ = some (.int .i64 ((rd_T82 l0 x5_1).f1)) ∧ w'.cell? (ad207.add ((x5_1).toNat * 2)) = some (.int .i64 ((rd_T82 l1 x5_1).f0)) ∧ w'.cell? ⟨(ad207.add ((x5_1).toNat * 2)).block, (ad207.add ((x5_1).toNat * 2)).off + 1, none⟩ = some (.int .i64 ((rd_T82 l1 x5_1).f1))) (ds := []) #[false, false, false, false, false, false, false, false, false, false] (by kernel_rfl) rfl rfl ⟨(cel HB.out hw206_0), (cel HB.out hw206_1), (cel HB.out hw207_0), (cel HB.out hw207_1)⟩ (fun hHeld => ?_); refine with_tabW laws_eqMarkS.tab6 laws_eqMarkS.bits6 (fun HT_ HW_ => ?_)
   generalize wr.drew = w9 at HB hx206_0 hx206_1 hx207_0 hx207_1 hHeld ⊢
   refine pus_ 0 (some 17) (ao_ HT_) ?_
   refine pus_ 1 (some 18) (ao_ HT_) ?_
   refine pus_ 2 (some 19) (ao_ HT_) ?_
   refine pus_ 4 (some 21) (ao_ HT_) ?_
   refine pus_ 5 (some 22) (ao_ HT_) ?_
   refine pus_ 6 (some 23) (ao_ HT_) ?_
   refine tas_ 3 (some 20) (to_ HT_ HW_) hHeld ?_
   refine tas_ 7 (some 24) (to_ HT_ HW_) hHeld ?_
   refine ons_ 8 (some 25) (oo_ HT_) (fun K hK => ?_)
   refine goes_ Tryd.func47 (by kernel_rfl) rfl #[.agg #[.int .i64 ((rd_T82 l0 x5_1).f0), .int .i64 ((rd_T82 l0 x5_1).f1)], .agg #[.int .i64 ((rd_T82 l1 x5_1).f0), .int .i64 ((rd_T82 l1 x5_1).f1)]] (by rfl) rfl rfl gl_ ?_
   with_reducible refine (laws_eqMark.calls ((rd_T82 l0 x5_1).f0) ((rd_T82 l0 x5_1).f1) ((rd_T82 l1 x5_1).f0) ((rd_T82 l1 x5_1).f1) true _ A7.out).mono ?_
   rintro e w10 ⟨rfl, hb⟩
   refine ⟨_, rfl, ?_⟩
   replace HB := mk_ (below_step (below_at HB.out) hb)
   (try clear hb)
   (try clear hb2)
   (try clear hk)
   (try clear hi)
   refine hK.out _ _ ⟨(cel HB.out hw206_0), (cel HB.out hw206_1), (cel HB.out hw207_0), (cel HB.out hw207_1)⟩ (fun hHeld => ?_)
   clear hK K
   refine nor_ (some 25) ?_
   refine pus_ 9 (some 26) (ao_ HT_) ?_
   refine done_ (done_of HT_.out (by kernel_rfl)) ?_
   try go_wp2
   go_roundg k1
   case measure => have := HK1.out; omega
   case rel => exact ⟨(wrap64 (x5_1 + 1)), sm_, H', ⟨by have := HK1.out; omega⟩, ⟨below_at HB.out⟩⟩
  replace c8 := Bool.eq_false_iff.mpr c8
  subst c8
  rw [if_neg Bool.false_ne_true] at H
  obtain rfl := Option.some.inj H
  try go_wp2
  replace HB := mk_ (below_drew1 HB.out)
  have p206 : 0 ≤ (x5_1 : Int) := oa_
  have q206 : x5_1 < (l0.length : Int) := oa_
  obtain ⟨ad206, e206, hx206_0, hx206_1⟩ := at_T82 HR0.out x5_1 p206 q206
  have hw206_1 := hx206_1
  have hw206_0 := hx206_0
  cases e206
  replace hx206_0 := cel HB.out hx206_0
  replace hx206_1 := cel HB.out hx206_1
  replace p206 := eq_true p206
  replace q206 := eq_true q206
  have p207 : 0 ≤ (x5_1 : Int) := oa_
  have q207 : x5_1 < (l1.length : Int) := oa_
  obtain ⟨ad207, e207, hx207_0, hx207_1⟩ := at_T82 HR1.out x5_1 p207 q207
  have hw207_1 := hx207_1
  have hw207_0 := hx207_0
  cases e207
  replace hx207_0 := cel HB.out hx207_0
  replace hx207_1 := cel HB.out hx207_1
  replace p207 := eq_true p207
  replace q207 := eq_true q207
  refine start_ (n := 10) (S := fun w' => w'.cell? (ad206.add ((x5_1).toNat * 2)) = some (.int .i64 ((rd_T82 l0 x5_1).f0)) ∧ w'.cell? ⟨(ad206.add ((x5_1).toNat * 2)).block, (ad206.add ((x5_1).toNat * 2)).off + 1, none⟩ = some (.int .i64 ((rd_T82 l0 x5_1).f1)) ∧ w'.cell? (ad207.add ((x5_1).toNat * 2)) = some (.int .i64 ((rd_T82 l1 x5_1).f0)) ∧ w'.cell? ⟨(ad207.add ((x5_1).toNat * 2)).block, (ad207.add ((x5_1).toNat * 2)).off + 1, none⟩ = some (.int .i64 ((rd_T82 l1 x5_1).f1))) (ds := []) #[false, false, false, false, false, false, false, false, false, false] (by kernel_rfl) rfl rfl ⟨(cel HB.out hw206_0), (cel HB.out hw206_1), (cel HB.out hw207_0), (cel HB.out hw207_1)⟩ (fun hHeld => ?_); refine with_tabW laws_eqMarkS.tab6 laws_eqMarkS.bits6 (fun HT_ HW_ => ?_)
  generalize wr.drew = w11 at HB hx206_0 hx206_1 hx207_0 hx207_1 hHeld ⊢
  refine pus_ 0 (some 17) (ao_ HT_) ?_
  refine pus_ 1 (some 18) (ao_ HT_) ?_
  refine pus_ 2 (some 19) (ao_ HT_) ?_
  refine pus_ 4 (some 21) (ao_ HT_) ?_
  refine pus_ 5 (some 22) (ao_ HT_) ?_
  refine pus_ 6 (some 23) (ao_ HT_) ?_
  refine tas_ 3 (some 20) (to_ HT_ HW_) hHeld ?_
  refine tas_ 7 (some 24) (to_ HT_ HW_) hHeld ?_
  refine ons_ 8 (some 25) (oo_ HT_) (fun K hK => ?_)
  refine goes_ Tryd.func47 (by kernel_rfl) rfl #[.agg #[.int .i64 ((rd_T82 l0 x5_1).f0), .int .i64 ((rd_T82 l0 x5_1).f1)], .agg #[.int .i64 ((rd_T82 l1 x5_1).f0), .int .i64 ((rd_T82 l1 x5_1).f1)]] (by rfl) rfl rfl gl_ ?_
  with_reducible refine (laws_eqMark.calls ((rd_T82 l0 x5_1).f0) ((rd_T82 l0 x5_1).f1) ((rd_T82 l1 x5_1).f0) ((rd_T82 l1 x5_1).f1) false _ A7.out).mono ?_
  rintro e w12 ⟨rfl, hb⟩
  refine ⟨_, rfl, ?_⟩
  replace HB := mk_ (below_step (below_at HB.out) hb)
  (try clear hb)
  (try clear hb2)
  (try clear hk)
  (try clear hi)
  refine hK.out _ _ ⟨(cel HB.out hw206_0), (cel HB.out hw206_1), (cel HB.out hw207_0), (cel HB.out hw207_1)⟩ (fun hHeld => ?_)
  clear hK K
  refine nor_ (some 25) ?_
  refine pus_ 9 (some 26) (ao_ HT_) ?_
  refine done_ (done_of HT_.out (by kernel_rfl)) ?_
  try go_wp2
  go_ret
  exact ⟨er_, below_at HB.out⟩

/-! ### laws_eqClaim: function 46 -/
def laws_eqClaim.f (k : Nat) (a0_0 : Int) (l0_1 : List (S82)) (a1_0 : Int) (l1_1 : List (S82)) : Option (Bool) := if a0_0 = a1_0 then ((laws_eqMarkS.f k l0_1 l1_1).bind fun t211 => (if t211 = true then (some true) else (some false))) else (some false)
set_option maxHeartbeats 8000000 in
set_option maxRecDepth 100000 in
theorem laws_eqClaim.calls (k : Nat) (a0_0 : Int) (A0_1 : Option Addr) (c0_1 : Nat) (l0_1 : List (S82)) (a1_0 : Int) (A1_1 : Option Addr) (c1_1 : Nat) (l1_1 : List (S82)) (r : Bool) (w : World) (hr0_1 : Kd.C k82 w A0_1 l0_1.length l0_1) (hc0_1 : l0_1.length ≤ c0_1) (hr1_1 : Kd.C k82 w A1_1 l1_1.length l1_1) (hc1_1 : l1_1.length ≤ c1_1) (h : laws_eqClaim.f k a0_0 l0_1 a1_0 l1_1 = some r) :
  Calls Tryd.prog 46 #[.agg #[.int .i64 a0_0, .slice A0_1 l0_1.length c0_1], .agg #[.int .i64 a1_0, .slice A1_1 l1_1.length c1_1]] w fun e w' => e = .returned (.bool r) ∧ Below w.heap.size w w' := by
 have hu79 := Tryd.underlying79
 have HR0_1 := mk_ hr0_1
 have HC0_1 := mk_ hc0_1
 clear hr0_1 hc0_1
 have HR1_1 := mk_ hr1_1
 have HC1_1 := mk_ hc1_1
 clear hr1_1 hc1_1
 have HB := mk_ (Below.refl w.heap.size w)
 unfold laws_eqClaim.f at h
 have H := h
 clear h
 by_cases c3 : a0_0 = a1_0
 rotate_left
 ·rw [if_neg c3] at H
  have c3b0 : (a0_0 == a1_0) = false := beq_eq_false_iff_ne.mpr c3
  have c3b1 : (a0_0 != a1_0) = true := bne_iff_ne.mpr c3
  obtain rfl := Option.some.inj H
  go_enter Tryd.func46, Tryd.ntmps46
  go_wp2_with (first | ((with_reducible refine gate_dst (N := 2) rfl ?_); refine bx_ 2 #[.int .i64 a0_0, .slice A0_1 l0_1.length c0_1] 79 ?_; intro gb209 hg w18 hbox hb; have BK209 := mk_ (hbox); have GW209 := mk_ (gb_ hg HB.out); have GE209 := mk_ (gb_ hg HB.out); replace HB := mk_ (below_step (below_at HB.out) hb); clear hb hbox hg) | ((with_reducible refine gate_dst (N := 3) rfl ?_); refine bx_ 3 #[.int .i64 a1_0, .slice A1_1 l1_1.length c1_1] 79 ?_; intro gb210 hg w19 hbox hb; have BK210 := mk_ (hbox); have GW210 := mk_ ((by rw [hg]; exact (below_size (at_ HB.out)) : w.heap.size ≤ gb210)); have GE210 := mk_ ((by rw [hg]; exact (below_size (at_ HB.out)) : w.heap.size ≤ gb210)); replace HB := mk_ (below_step (at_ HB.out) hb); have NB209_210 := mk_ ((by rw [hg]; exact Nat.ne_of_lt (blk_lt (g := gb209) (o := .cells #[.int .i64 a0_0, .slice A0_1 l0_1.length c0_1] 79 (0, 0)) (bk_ BK209.out)) : gb209 ≠ gb210)); have NB210_209 := mk_ ((by rw [hg]; exact Nat.ne_of_gt (blk_lt (g := gb209) (o := .cells #[.int .i64 a0_0, .slice A0_1 l0_1.length c0_1] 79 (0, 0)) (bk_ BK209.out)) : gb210 ≠ gb209)); replace BK209 := mk_ (blk_at BK209.out hb); clear hb hbox hg; have hnb20 := NB209_210.out; have hnc20 := NB210_209.out; have hcz21_0 := blk_cell BK209.out 0; have hcz21_1 := blk_cell BK209.out 1; have hfz21_0 := blk_frozen BK209.out 0; have hfz21_1 := blk_frozen BK209.out 1; have hcz22_0 := blk_cell BK210.out 0; have hcz22_1 := blk_cell BK210.out 1; have hfz22_0 := blk_frozen BK210.out 0; have hfz22_1 := blk_frozen BK210.out 1))
  go_ret
  exact ⟨er_, at_ HB.out⟩
 rw [if_pos c3] at H
 have c3b0 : (a0_0 == a1_0) = true := beq_iff_eq.mpr c3
 have c3b1 : (a0_0 != a1_0) = false := bne_eq_false_iff_eq.mpr c3
 clear c3
 replace H := Option.bind_eq_some_iff.mp H
 obtain ⟨t211, A40, H⟩ := H
 try dsimp only at H
 have A4 := mk_ A40
 clear A40
 by_cases c5 : t211 = true
 ·subst c5
  rw [if_pos rfl] at H
  obtain rfl := Option.some.inj H
  go_enter Tryd.func46, Tryd.ntmps46
  go_wp2_with (first | ((with_reducible refine gate_dst (N := 2) rfl ?_); refine bx_ 2 #[.int .i64 a0_0, .slice A0_1 l0_1.length c0_1] 79 ?_; intro gb209 hg w6 hbox hb; have BK209 := mk_ (hbox); have GW209 := mk_ (gb_ hg HB.out); have GE209 := mk_ (gb_ hg HB.out); replace HB := mk_ (below_step (below_at HB.out) hb); clear hb hbox hg) | ((with_reducible refine gate_dst (N := 3) rfl ?_); refine bx_ 3 #[.int .i64 a1_0, .slice A1_1 l1_1.length c1_1] 79 ?_; intro gb210 hg w7 hbox hb; have BK210 := mk_ (hbox); have GW210 := mk_ ((by rw [hg]; exact (below_size (at_ HB.out)) : w.heap.size ≤ gb210)); have GE210 := mk_ ((by rw [hg]; exact (below_size (at_ HB.out)) : w.heap.size ≤ gb210)); replace HB := mk_ (below_step (at_ HB.out) hb); have NB209_210 := mk_ ((by rw [hg]; exact Nat.ne_of_lt (blk_lt (g := gb209) (o := .cells #[.int .i64 a0_0, .slice A0_1 l0_1.length c0_1] 79 (0, 0)) (bk_ BK209.out)) : gb209 ≠ gb210)); have NB210_209 := mk_ ((by rw [hg]; exact Nat.ne_of_gt (blk_lt (g := gb209) (o := .cells #[.int .i64 a0_0, .slice A0_1 l0_1.length c0_1] 79 (0, 0)) (bk_ BK209.out)) : gb210 ≠ gb209)); replace BK209 := mk_ (blk_at BK209.out hb); clear hb hbox hg; have hnb8 := NB209_210.out; have hnc8 := NB210_209.out; have hcz9_0 := blk_cell BK209.out 0; have hcz9_1 := blk_cell BK209.out 1; have hfz9_0 := blk_frozen BK209.out 0; have hfz9_1 := blk_frozen BK209.out 1; have hcz10_0 := blk_cell BK210.out 0; have hcz10_1 := blk_cell BK210.out 1; have hfz10_0 := blk_frozen BK210.out 0; have hfz10_1 := blk_frozen BK210.out 1) | ((with_reducible refine gate_callee (f := 20) rfl ?_); refine goesL_ (some 14) rfl rfl Tryd.func20 (by kernel_rfl) rfl #[.slice A0_1 l0_1.length c0_1, .slice A1_1 l1_1.length c1_1] rfl gl_ ?_; (with_reducible refine (laws_eqMarkS.calls k _ _ l0_1 _ _ l1_1 true _ ?side1 ?side2 ?side3 ?side4 A4.out).mono ?_); (case side1 => exact Kd.C_below (Kd.C_below HR0_1.out HB.out) lt_); (case side2 => exact HC0_1.out); (case side3 => exact Kd.C_below (Kd.C_below HR1_1.out HB.out) lt_); (case side4 => exact HC1_1.out); rintro e w11 ⟨rfl, hb⟩; refine ⟨_, rfl, ?_⟩; replace HB := mk_ (below_step (at_ HB.out) hb); (try clear BK209 BK210); (try clear hb); (try clear hb2); (try clear hk); (try clear hi)))
  go_ret
  exact ⟨er_, at_ HB.out⟩
 replace c5 := Bool.eq_false_iff.mpr c5
 subst c5
 rw [if_neg Bool.false_ne_true] at H
 obtain rfl := Option.some.inj H
 go_enter Tryd.func46, Tryd.ntmps46
 go_wp2_with (first | ((with_reducible refine gate_dst (N := 2) rfl ?_); refine bx_ 2 #[.int .i64 a0_0, .slice A0_1 l0_1.length c0_1] 79 ?_; intro gb209 hg w12 hbox hb; have BK209 := mk_ (hbox); have GW209 := mk_ (gb_ hg HB.out); have GE209 := mk_ (gb_ hg HB.out); replace HB := mk_ (below_step (below_at HB.out) hb); clear hb hbox hg) | ((with_reducible refine gate_dst (N := 3) rfl ?_); refine bx_ 3 #[.int .i64 a1_0, .slice A1_1 l1_1.length c1_1] 79 ?_; intro gb210 hg w13 hbox hb; have BK210 := mk_ (hbox); have GW210 := mk_ ((by rw [hg]; exact (below_size (at_ HB.out)) : w.heap.size ≤ gb210)); have GE210 := mk_ ((by rw [hg]; exact (below_size (at_ HB.out)) : w.heap.size ≤ gb210)); replace HB := mk_ (below_step (at_ HB.out) hb); have NB209_210 := mk_ ((by rw [hg]; exact Nat.ne_of_lt (blk_lt (g := gb209) (o := .cells #[.int .i64 a0_0, .slice A0_1 l0_1.length c0_1] 79 (0, 0)) (bk_ BK209.out)) : gb209 ≠ gb210)); have NB210_209 := mk_ ((by rw [hg]; exact Nat.ne_of_gt (blk_lt (g := gb209) (o := .cells #[.int .i64 a0_0, .slice A0_1 l0_1.length c0_1] 79 (0, 0)) (bk_ BK209.out)) : gb210 ≠ gb209)); replace BK209 := mk_ (blk_at BK209.out hb); clear hb hbox hg; have hnb14 := NB209_210.out; have hnc14 := NB210_209.out; have hcz15_0 := blk_cell BK209.out 0; have hcz15_1 := blk_cell BK209.out 1; have hfz15_0 := blk_frozen BK209.out 0; have hfz15_1 := blk_frozen BK209.out 1; have hcz16_0 := blk_cell BK210.out 0; have hcz16_1 := blk_cell BK210.out 1; have hfz16_0 := blk_frozen BK210.out 0; have hfz16_1 := blk_frozen BK210.out 1) | ((with_reducible refine gate_callee (f := 20) rfl ?_); refine goesL_ (some 14) rfl rfl Tryd.func20 (by kernel_rfl) rfl #[.slice A0_1 l0_1.length c0_1, .slice A1_1 l1_1.length c1_1] rfl gl_ ?_; (with_reducible refine (laws_eqMarkS.calls k _ _ l0_1 _ _ l1_1 false _ ?side1 ?side2 ?side3 ?side4 A4.out).mono ?_); (case side1 => exact Kd.C_below (Kd.C_below HR0_1.out HB.out) lt_); (case side2 => exact HC0_1.out); (case side3 => exact Kd.C_below (Kd.C_below HR1_1.out HB.out) lt_); (case side4 => exact HC1_1.out); rintro e w17 ⟨rfl, hb⟩; refine ⟨_, rfl, ?_⟩; replace HB := mk_ (below_step (at_ HB.out) hb); (try clear BK209 BK210); (try clear hb); (try clear hb2); (try clear hk); (try clear hi)))
 go_ret
 exact ⟨er_, at_ HB.out⟩

/-! ### laws_eqClaimS: function 19 -/
def laws_eqClaimS.l0 : Nat → List (S79) → List (S79) → Int → Option (Bool)
 | 0, _, _, _ => none
 | k + 1, x0, x1, x5 => if x5 < (x0.length : Int) then (if 0 ≤ x5 then (if x5 < (x1.length : Int) then ((laws_eqClaim.f k ((rd_T79 x0 x5).f0) ((rd_T79 x0 x5).f1) ((rd_T79 x1 x5).f0) ((rd_T79 x1 x5).f1)).bind fun t214 => (if t214 = true then (laws_eqClaimS.l0 k x0 x1 (wrap64 (x5 + 1))) else (some false))) else (none)) else (none)) else (some true)
def laws_eqClaimS.f (k : Nat) (l0 : List (S79)) (l1 : List (S79)) : Option (Bool) := if (l0.length : Int) = (l1.length : Int) then (laws_eqClaimS.l0 k l0 l1 0) else (some false)
def laws_eqClaimS.T6 : Bool × List (List Nat × List Nat) := (true, [([], []), ([], []), ([0, 1], [0, 1]), ([2], [2]), ([], []), ([], []), ([4, 5], [4, 5]), ([6], [6]), ([3, 7], [3, 7]), ([8], [8])])
def laws_eqClaimS.B6 : List Nat := [0, 0, 3, 7, 0, 0, 48, 112, 255, 511]
theorem laws_eqClaimS.tab6 : rtab .any (opsOf Tryd.f19 6) = laws_eqClaimS.T6 := by kernel_rfl
theorem laws_eqClaimS.bits6 : waitsOk laws_eqClaimS.T6.2 laws_eqClaimS.B6 = true := by kernel_rfl
set_option maxHeartbeats 8000000 in
set_option maxRecDepth 100000 in
theorem laws_eqClaimS.calls (k : Nat) (A0 : Option Addr) (c0 : Nat) (l0 : List (S79)) (A1 : Option Addr) (c1 : Nat) (l1 : List (S79)) (r : Bool) (w : World) (hr0 : Kd.C k79 w A0 l0.length l0) (hc0 : l0.length ≤ c0) (hr1 : Kd.C k79 w A1 l1.length l1) (hc1 : l1.length ≤ c1) (h : laws_eqClaimS.f k l0 l1 = some r) :
  Calls Tryd.prog 19 #[.slice A0 l0.length c0, .slice A1 l1.length c1] w fun e w' => e = .returned (.bool r) ∧ Below w.heap.size w w' := by
 have hu79 := Tryd.underlying79
 have HR0 := mk_ hr0
 have HC0 := mk_ hc0
 clear hr0 hc0
 have HR1 := mk_ hr1
 have HC1 := mk_ hc1
 clear hr1 hc1
 have HB := mk_ (Below.refl w.heap.size w)
 have H : (if (l0.length : Int) = (l1.length : Int) then (laws_eqClaimS.l0 k l0 l1 0) else (some false)) = some r := h
 clear h
 by_cases c3 : (l0.length : Int) = (l1.length : Int)
 rotate_left
 ·rw [if_neg c3] at H
  have c3b0 : ((l0.length : Int) == (l1.length : Int)) = false := beq_eq_false_iff_ne.mpr c3
  have c3b1 : ((l0.length : Int) != (l1.length : Int)) = true := bne_iff_ne.mpr c3
  have c3b2 : (l0.length == l1.length) = false := by first | simpa using c3 | (simp at c3 ⊢; omega)
  obtain rfl := Option.some.inj H
  go_enter Tryd.func19, Tryd.ntmps19
  go_wp2
  go_ret
  exact ⟨er_, below_at HB.out⟩
 rw [if_pos c3] at H
 have c3b0 : ((l0.length : Int) == (l1.length : Int)) = true := beq_iff_eq.mpr c3
 have c3b1 : ((l0.length : Int) != (l1.length : Int)) = false := bne_eq_false_iff_eq.mpr c3
 have c3b2 : (l0.length == l1.length) = true := by first | simpa using c3 | (simp at c3 ⊢; omega)
 clear c3
 have H' := mk_ H
 clear H
 go_enter Tryd.func19, Tryd.ntmps19
 go_wp2
 go_loopg [5] k (fun kq v5 w' => ∃ (x5_1 : Int), v5 = .int .i64 x5_1 ∧ Aside0 (laws_eqClaimS.l0 kq l0 l1 x5_1 = some r) ∧ Aside0 (kq ≤ k) ∧ Aside0 (Below w.heap.size w w'))
 case atStart => exact ⟨(0), sm_, H', ⟨Nat.le_refl _⟩, ⟨below_at HB.out⟩⟩
 clear H'
 try clear c1
 try clear p2
 try clear c3
 try clear c3b0
 try clear c3b1
 try clear c3b2
 obtain ⟨x5_1, rfl, HA, HK1, HB⟩ := hrel
 cases gk with
 | zero => exact absurd HA.out (by simp [laws_eqClaimS.l0])
 | succ k1 =>
  have H := HA.out
  clear HA
  simp only [laws_eqClaimS.l0] at H
  by_cases c4 : x5_1 < (l0.length : Int)
  rotate_left
  ·rw [if_neg c4] at H
   have c4b0 : decide (x5_1 < (l0.length : Int)) = false := decide_eq_false c4
   clear c4
   obtain rfl := Option.some.inj H
   go_wp2
   go_ret
   exact ⟨er_, below_at HB.out⟩
  rw [if_pos c4] at H
  have c4b0 : decide (x5_1 < (l0.length : Int)) = true := decide_eq_true c4
  clear c4
  by_cases c5 : 0 ≤ x5_1
  rotate_left
  ·rw [if_neg c5] at H
   exact absurd H (by simp)
  rw [if_pos c5] at H
  have c5b0 : decide (0 ≤ x5_1) = true := decide_eq_true c5
  clear c5
  by_cases c6 : x5_1 < (l1.length : Int)
  rotate_left
  ·rw [if_neg c6] at H
   exact absurd H (by simp)
  rw [if_pos c6] at H
  have c6b0 : decide (x5_1 < (l1.length : Int)) = true := decide_eq_true c6
  clear c6
  replace H := Option.bind_eq_some_iff.mp H
  obtain ⟨t214, A70, H⟩ := H
  try dsimp only at H
  have A7 := mk_ A70
  clear A70
  by_cases c8 : t214 = true
  ·subst c8
   rw [if_pos rfl] at H
   have H' := mk_ H
   clear H
   try go_wp2
   replace HB := mk_ (below_drew1 HB.out)
   have p212 : 0 ≤ (x5_1 : Int) := oa_
   have q212 : x5_1 < (l0.length : Int) := oa_
   obtain ⟨ad212, A212_1, c212_1, e212, hx212_0, hx212_1, hl212_1, hi212_1⟩ := at_T79 HR0.out x5_1 p212 q212
   have hw212_1 := hx212_1
   have hw212_0 := hx212_0
   cases e212
   replace hx212_0 := cel HB.out hx212_0
   replace hx212_1 := cel HB.out hx212_1
   have HR212_1 := mk_ hi212_1
   have HC212_1 := mk_ hl212_1
   clear hi212_1 hl212_1
   replace p212 := eq_true p212
   replace q212 := eq_true q212
   have p213 : 0 ≤ (x5_1 : Int) := oa_
   have q213 : x5_1 < (l1.length : Int) := oa_
   obtain ⟨ad213, A213_1, c213_1, e213, hx213_0, hx213_1, hl213_1, hi213_1⟩ := at_T79 HR1.out x5_1 p213 q213
   have hw213_1 := hx213_1
   have hw213_0 := hx213_0
   cases e213
   replace hx213_0 := cel HB.out hx213_0
   replace hx213_1 := cel HB.out hx213_1
   have HR213_1 := mk_ hi213_1
   have HC213_1 := mk_ hl213_1
   clear hi213_1 hl213_1
   replace p213 := eq_true p213
   replace q213 := eq_true q213
   refine start_ (n := 10) (S := fun w' => w'.cell? (ad212.add ((x5_1).toNat * 2)) = some (.int .i64 ((rd_T79 l0 x5_1).f0)) ∧ w'.cell? ⟨(ad212.add ((x5_1).toNat * 2)).block, (ad212.add ((x5_1).toNat * 2)).off + 1, none⟩ = some (.slice A212_1 ((rd_T79 l0 x5_1).f1).length c212_1) ∧ w'.cell? (ad213.add ((x5_1).toNat * 2)) = some (.int .i64 ((rd_T79 l1 x5_1).f0)) ∧ w'.cell? ⟨(ad213.add ((x5_1).toNat * 2)).block, (ad213.add ((x5_1).toNat * 2)).off + 1, none⟩ = some (.slice A213_1 ((rd_T79 l1 x5_1).f1).length c213_1)) (ds := []) #[false, false, false, false, false, false, false, false, false, false] (by kernel_rfl) rfl rfl ⟨(cel HB.out hw212_0), (cel HB.out hw212_1), (cel HB.out hw213_0), (cel HB.out hw213_1)⟩ (fun hHeld => ?_); refine with_tabW laws_eqClaimS.tab6 laws_eqClaimS.bits6 (fun HT_ HW_ => ?_)
   generalize wr.drew = w9 at HB HR212_1 HR213_1 hx212_0 hx212_1 hx213_0 hx213_1 hHeld ⊢
   refine pus_ 0 (some 17) (ao_ HT_) ?_
   refine pus_ 1 (some 18) (ao_ HT_) ?_
   refine pus_ 2 (some 19) (ao_ HT_) ?_
   refine pus_ 4 (some 21) (ao_ HT_) ?_
   refine pus_ 5 (some 22) (ao_ HT_) ?_
   refine pus_ 6 (some 23) (ao_ HT_) ?_
   refine tas_ 3 (some 20) (to_ HT_ HW_) hHeld ?_
   refine tas_ 7 (some 24) (to_ HT_ HW_) hHeld ?_
   refine ons_ 8 (some 25) (oo_ HT_) (fun K hK => ?_)
   refine goes_ Tryd.func46 (by kernel_rfl) rfl #[.agg #[.int .i64 ((rd_T79 l0 x5_1).f0), .slice A212_1 ((rd_T79 l0 x5_1).f1).length c212_1], .agg #[.int .i64 ((rd_T79 l1 x5_1).f0), .slice A213_1 ((rd_T79 l1 x5_1).f1).length c213_1]] (by rfl) rfl rfl gl_ ?_
   with_reducible refine (laws_eqClaim.calls k1 ((rd_T79 l0 x5_1).f0) _ _ ((rd_T79 l0 x5_1).f1) ((rd_T79 l1 x5_1).f0) _ _ ((rd_T79 l1 x5_1).f1) true _ ?side1 ?side2 ?side3 ?side4 A7.out).mono ?_
   (case side1 => exact Kd.C_below (Kd.C_below HR212_1.out HB.out) lt_)
   (case side2 => exact HC212_1.out)
   (case side3 => exact Kd.C_below (Kd.C_below HR213_1.out HB.out) lt_)
   (case side4 => exact HC213_1.out)
   rintro e w10 ⟨rfl, hb⟩
   refine ⟨_, rfl, ?_⟩
   replace HB := mk_ (below_step (below_at HB.out) hb)
   (try clear hb)
   (try clear hb2)
   (try clear hk)
   (try clear hi)
   refine hK.out _ _ ⟨(cel HB.out hw212_0), (cel HB.out hw212_1), (cel HB.out hw213_0), (cel HB.out hw213_1)⟩ (fun hHeld => ?_)
   clear hK K
   refine nor_ (some 25) ?_
   refine pus_ 9 (some 26) (ao_ HT_) ?_
   refine done_ (done_of HT_.out (by kernel_rfl)) ?_
   try go_wp2
   go_roundg k1
   case measure => have := HK1.out; omega
   case rel => exact ⟨(wrap64 (x5_1 + 1)), sm_, H', ⟨by have := HK1.out; omega⟩, ⟨below_at HB.out⟩⟩
  replace c8 := Bool.eq_false_iff.mpr c8
  subst c8
  rw [if_neg Bool.false_ne_true] at H
  obtain rfl := Option.some.inj H
  try go_wp2
  replace HB := mk_ (below_drew1 HB.out)
  have p212 : 0 ≤ (x5_1 : Int) := oa_
  have q212 : x5_1 < (l0.length : Int) := oa_
  obtain ⟨ad212, A212_1, c212_1, e212, hx212_0, hx212_1, hl212_1, hi212_1⟩ := at_T79 HR0.out x5_1 p212 q212
  have hw212_1 := hx212_1
  have hw212_0 := hx212_0
  cases e212
  replace hx212_0 := cel HB.out hx212_0
  replace hx212_1 := cel HB.out hx212_1
  have HR212_1 := mk_ hi212_1
  have HC212_1 := mk_ hl212_1
  clear hi212_1 hl212_1
  replace p212 := eq_true p212
  replace q212 := eq_true q212
  have p213 : 0 ≤ (x5_1 : Int) := oa_
  have q213 : x5_1 < (l1.length : Int) := oa_
  obtain ⟨ad213, A213_1, c213_1, e213, hx213_0, hx213_1, hl213_1, hi213_1⟩ := at_T79 HR1.out x5_1 p213 q213
  have hw213_1 := hx213_1
  have hw213_0 := hx213_0
  cases e213
  replace hx213_0 := cel HB.out hx213_0
  replace hx213_1 := cel HB.out hx213_1
  have HR213_1 := mk_ hi213_1
  have HC213_1 := mk_ hl213_1
  clear hi213_1 hl213_1
  replace p213 := eq_true p213
  replace q213 := eq_true q213
  refine start_ (n := 10) (S := fun w' => w'.cell? (ad212.add ((x5_1).toNat * 2)) = some (.int .i64 ((rd_T79 l0 x5_1).f0)) ∧ w'.cell? ⟨(ad212.add ((x5_1).toNat * 2)).block, (ad212.add ((x5_1).toNat * 2)).off + 1, none⟩ = some (.slice A212_1 ((rd_T79 l0 x5_1).f1).length c212_1) ∧ w'.cell? (ad213.add ((x5_1).toNat * 2)) = some (.int .i64 ((rd_T79 l1 x5_1).f0)) ∧ w'.cell? ⟨(ad213.add ((x5_1).toNat * 2)).block, (ad213.add ((x5_1).toNat * 2)).off + 1, none⟩ = some (.slice A213_1 ((rd_T79 l1 x5_1).f1).length c213_1)) (ds := []) #[false, false, false, false, false, false, false, false, false, false] (by kernel_rfl) rfl rfl ⟨(cel HB.out hw212_0), (cel HB.out hw212_1), (cel HB.out hw213_0), (cel HB.out hw213_1)⟩ (fun hHeld => ?_); refine with_tabW laws_eqClaimS.tab6 laws_eqClaimS.bits6 (fun HT_ HW_ => ?_)
  generalize wr.drew = w11 at HB HR212_1 HR213_1 hx212_0 hx212_1 hx213_0 hx213_1 hHeld ⊢
  refine pus_ 0 (some 17) (ao_ HT_) ?_
  refine pus_ 1 (some 18) (ao_ HT_) ?_
  refine pus_ 2 (some 19) (ao_ HT_) ?_
  refine pus_ 4 (some 21) (ao_ HT_) ?_
  refine pus_ 5 (some 22) (ao_ HT_) ?_
  refine pus_ 6 (some 23) (ao_ HT_) ?_
  refine tas_ 3 (some 20) (to_ HT_ HW_) hHeld ?_
  refine tas_ 7 (some 24) (to_ HT_ HW_) hHeld ?_
  refine ons_ 8 (some 25) (oo_ HT_) (fun K hK => ?_)
  refine goes_ Tryd.func46 (by kernel_rfl) rfl #[.agg #[.int .i64 ((rd_T79 l0 x5_1).f0), .slice A212_1 ((rd_T79 l0 x5_1).f1).length c212_1], .agg #[.int .i64 ((rd_T79 l1 x5_1).f0), .slice A213_1 ((rd_T79 l1 x5_1).f1).length c213_1]] (by rfl) rfl rfl gl_ ?_
  with_reducible refine (laws_eqClaim.calls k1 ((rd_T79 l0 x5_1).f0) _ _ ((rd_T79 l0 x5_1).f1) ((rd_T79 l1 x5_1).f0) _ _ ((rd_T79 l1 x5_1).f1) false _ ?side1 ?side2 ?side3 ?side4 A7.out).mono ?_
  (case side1 => exact Kd.C_below (Kd.C_below HR212_1.out HB.out) lt_)
  (case side2 => exact HC212_1.out)
  (case side3 => exact Kd.C_below (Kd.C_below HR213_1.out HB.out) lt_)
  (case side4 => exact HC213_1.out)
  rintro e w12 ⟨rfl, hb⟩
  refine ⟨_, rfl, ?_⟩
  replace HB := mk_ (below_step (below_at HB.out) hb)
  (try clear hb)
  (try clear hb2)
  (try clear hk)
  (try clear hi)
  refine hK.out _ _ ⟨(cel HB.out hw212_0), (cel HB.out hw212_1), (cel HB.out hw213_0), (cel HB.out hw213_1)⟩ (fun hHeld => ?_)
  clear hK K
  refine nor_ (some 25) ?_
  refine pus_ 9 (some 26) (ao_ HT_) ?_
  refine done_ (done_of HT_.out (by kernel_rfl)) ?_
  try go_wp2
  go_ret
  exact ⟨er_, below_at HB.out⟩

end Go.Proofs.YtcaogllnbpmcgaaDoor.P

/- Go's functions come to just the answers of the Lean functions told here. -/
import Derived.Test.YtcaogllnbpmcgaaPx7
namespace Go.Proofs.Ytcaogllnbpmcgaa.P
open Go.RowKit Go.Proofs.YtcaogllnbpmcgaaW.PrintWords Go.Proofs.YtcaogllnbpmcgaaW.PrintLast Go.Proofs.YtcaogllnbpmcgaaW.PrintMore
attribute [local go_sem] max2_int min2_int max_two min_two max_three min_three max_four min_four
set_option linter.unusedVariables false
set_option linter.unusedSimpArgs false

/-! ### spec_l4Story: function 108 -/
def spec_l4Story.l0 : Nat → Int → List (S38) → Int → Int → Option (Int)
 | 0, _, _, _, _ => none
 | k + 1, x0, x1, x5, x6 => if x6 < (x1.length : Int) then (if 0 ≤ x6 then ((spec_l4Table.f k x0 ((rd_T38 x1 x6).f0) ((rd_T38 x1 x6).f1)).bind fun t205 => (spec_l4Story.l0 k x0 x1 (Go.bits .and .i64 x5 t205) (wrap64 (x6 + 1)))) else (none)) else (some x5)
def spec_l4Story.f (k : Nat) (a0 : Int) (l1 : List (S38)) : Option (Int) := if 0 ≤ a0 then (spec_l4Story.l0 k a0 l1 (wrap64 ((shl .i64 1 (shl .u64 1 a0)) - 1)) 0) else (none)
theorem spec_l4Story.mono_l : ∀ k, (∀ y0 y1 y2 y3, LeO (spec_l4Story.l0 k y0 y1 y2 y3) (spec_l4Story.l0 (k + 1) y0 y1 y2 y3))
 | 0 => fun _ _ _ _ r h => by simp [spec_l4Story.l0] at h
 | k + 1 => by
  have ih0 := spec_l4Story.mono_l k
  ·intro y0 y1 y2 y3
   unfold spec_l4Story.l0
   repeat' first
   | (with_reducible exact ih0 _ _ _ _)
   | (with_reducible exact spec_l4Table.mono _ _ _ _)
   | (with_reducible exact LeO.refl _)
   | (with_reducible exact LeO.none _)
   | (with_reducible refine LeO.ite ?_ ?_)
   | (with_reducible refine LeO.bind ?_ (fun _ => ?_))
theorem spec_l4Story.mono : ∀ a0 a1 k, LeO (spec_l4Story.f k a0 a1) (spec_l4Story.f (k + 1) a0 a1) := by
 intro a0 a1 k
 have ih0 := spec_l4Story.mono_l k
 unfold spec_l4Story.f
 repeat' first
   | (with_reducible exact ih0 _ _ _ _)
   | (with_reducible exact spec_l4Table.mono _ _ _ _)
   | (with_reducible exact LeO.refl _)
   | (with_reducible exact LeO.none _)
   | (with_reducible refine LeO.ite ?_ ?_)
   | (with_reducible refine LeO.bind ?_ (fun _ => ?_))
set_option maxHeartbeats 8000000 in
set_option maxRecDepth 100000 in
theorem spec_l4Story.calls (k : Nat) (a0 : Int) (A1 : Option Addr) (c1 : Nat) (l1 : List (S38)) (r : Int) (w : World) (hr1 : Kd.C k38 w A1 l1.length l1) (hc1 : l1.length ≤ c1) (h : spec_l4Story.f k a0 l1 = some r) :
  Calls Try.prog 108 #[.int .i64 a0, .slice A1 l1.length c1] w fun e w' => e = .returned (.int .i64 r) ∧ Below w.heap.size w w' := by
 have hu38 := Try.underlying38
 have HR1 := mk_ hr1
 have HC1 := mk_ hc1
 clear hr1 hc1
 have HB := mk_ (Below.refl w.heap.size w)
 have H : (if 0 ≤ a0 then (spec_l4Story.l0 k a0 l1 (wrap64 ((shl .i64 1 (shl .u64 1 a0)) - 1)) 0) else (none)) = some r := h
 clear h
 by_cases c3 : 0 ≤ a0
 rotate_left
 ·rw [if_neg c3] at H
  exact absurd H (by simp)
 rw [if_pos c3] at H
 have c3b0 := eq_true c3
 have c3b1 : decide (0 ≤ a0) = true := decide_eq_true c3
 clear c3
 obtain ⟨ji4, hji4⟩ : ∃ j_ : Int, (shl .u64 1 a0) = j_ := ⟨_, rfl⟩
 replace H : (spec_l4Story.l0 k a0 l1 (wrap64 ((shl .i64 1 (ji4)) - 1)) 0) = some r := by first | (rw [hji4] at H; exact H) | (simp only [hji4] at H ⊢; exact H)
 have hji4n : 0 ≤ ji4 := by rw [← hji4]; unfold shl; generalize (1 : Int) * 2 ^ min a0.toNat (IntKind.bits .u64) = q_; simp [IntKind.wrap, IntKind.bits, IntKind.signed]; omega
 have hji4e := eq_true hji4n
 have hji4f : decide (ji4 < 0) = false := decide_eq_false (Int.not_lt.mpr hji4n)
 clear hji4n
 have hji4_ : (IntKind.u64.wrap (1 * 2 ^ min a0.toNat 64)) = ji4 := hji4
 have hji4z : a0 ≤ 64 → (IntKind.u64.wrap (1 * 2 ^ a0.toNat)) = ji4 := shl_small hji4
 have hji4u : (IntKind.u64.wrap (2 ^ min a0.toNat 64)) = ji4 := by have h_ := hji4_; rw [Int.one_mul] at h_; exact h_
 have hji4v : a0 ≤ 64 → (IntKind.u64.wrap (2 ^ a0.toNat)) = ji4 := fun hle_ => by have h_ := hji4z hle_; rw [Int.one_mul] at h_; exact h_
 obtain ⟨ji5, hji5⟩ : ∃ j_ : Int, (shl .i64 1 (ji4)) = j_ := ⟨_, rfl⟩
 replace H : (spec_l4Story.l0 k a0 l1 (wrap64 ((ji5) - 1)) 0) = some r := by first | (rw [hji5] at H; exact H) | (simp only [hji5] at H ⊢; exact H)
 have hji5_ : (IntKind.i64.wrap (1 * 2 ^ min (ji4).toNat 64)) = ji5 := hji5
 have hji5z : (ji4) ≤ 64 → (IntKind.i64.wrap (1 * 2 ^ (ji4).toNat)) = ji5 := shl_small hji5
 have hji5u : (IntKind.i64.wrap (2 ^ min (ji4).toNat 64)) = ji5 := by have h_ := hji5_; rw [Int.one_mul] at h_; exact h_
 have hji5v : (ji4) ≤ 64 → (IntKind.i64.wrap (2 ^ (ji4).toNat)) = ji5 := fun hle_ => by have h_ := hji5z hle_; rw [Int.one_mul] at h_; exact h_
 have hji5y : (wrap64 (1 * 2 ^ min (ji4).toNat 64)) = ji5 := (i64_w _).symm.trans hji5_
 have hji5x : (ji4) ≤ 64 → (wrap64 (1 * 2 ^ (ji4).toNat)) = ji5 := fun h_ => (i64_w _).symm.trans (hji5z h_)
 have H' := mk_ H
 clear H
 go_enter Try.func108, Try.ntmps108
 go_wp2
 go_loopg [5, 6] k (fun kq v5 v6 w' => ∃ (x5_1 : Int) (x6_1 : Int), v5 = .int .i64 x5_1 ∧ v6 = .int .i64 x6_1 ∧ Aside0 (spec_l4Story.l0 kq a0 l1 x5_1 x6_1 = some r) ∧ Aside0 (kq ≤ k) ∧ Aside0 (Below w.heap.size w w'))
 case atStart => exact ⟨(wrap64 ((ji5) - 1)), (0), (by first | rfl | (simp; done) | (simp only [← hji5] <;> (first | rfl | simp)) | (simp [*]; done)), (by first | rfl | (simp; done) | (simp [*]; done)), H', ⟨Nat.le_refl _⟩, ⟨below_at HB.out⟩⟩
 clear H'
 try clear c1
 try clear p2
 try clear c3
 try clear c3b0
 try clear c3b1
 obtain ⟨x5_1, x6_1, rfl, rfl, HA, HK1, HB⟩ := hrel
 cases gk with
 | zero => exact absurd HA.out (by simp [spec_l4Story.l0])
 | succ k1 =>
  have H := HA.out
  clear HA
  simp only [spec_l4Story.l0] at H
  by_cases c6 : x6_1 < (l1.length : Int)
  rotate_left
  ·rw [if_neg c6] at H
   have c6b0 : decide (x6_1 < (l1.length : Int)) = false := decide_eq_false c6
   clear c6
   obtain rfl := Option.some.inj H
   go_wp2
   go_ret
   exact ⟨by first | rfl | (simp [errW_none, errW_some] <;> rfl) | (simp only [← hji4, ← hji5]; first | rfl | (simp [errW_none, errW_some] <;> rfl)) | (simp [*, errW_none, errW_some] <;> rfl), below_at HB.out⟩
  rw [if_pos c6] at H
  have c6b0 : decide (x6_1 < (l1.length : Int)) = true := decide_eq_true c6
  clear c6
  by_cases c7 : 0 ≤ x6_1
  rotate_left
  ·rw [if_neg c7] at H
   exact absurd H (by simp)
  rw [if_pos c7] at H
  have c7b0 : decide (0 ≤ x6_1) = true := decide_eq_true c7
  clear c7
  replace H := Option.bind_eq_some_iff.mp H
  obtain ⟨t205, A80, H⟩ := H
  try dsimp only at H
  have A8 := mk_ A80
  clear A80
  have H' := mk_ H
  clear H
  have p204 : 0 ≤ (x6_1 : Int) := oa_
  have q204 : x6_1 < (l1.length : Int) := oa_
  obtain ⟨ad204, A204_1, c204_1, e204, hx204_0, hx204_1, hl204_1, hi204_1⟩ := at_T38 HR1.out x6_1 p204 q204
  cases e204
  replace hx204_0 := cel HB.out hx204_0
  replace hx204_1 := cel HB.out hx204_1
  have HR204_1 := mk_ hi204_1
  have HC204_1 := mk_ hl204_1
  clear hi204_1 hl204_1
  replace p204 := eq_true p204
  replace q204 := eq_true q204
  go_wp2_with (first | ((with_reducible refine gate_callee (f := 111) rfl ?_); refine goesL_ (some 23) rfl rfl Try.func111 (by kernel_rfl) rfl #[.int .i64 a0, .agg #[.int .i64 ((rd_T38 l1 x6_1).f0), .slice A204_1 ((rd_T38 l1 x6_1).f1).length c204_1]] rfl gl_ ?_; (with_reducible refine (spec_l4Table.calls k1 a0 ((rd_T38 l1 x6_1).f0) _ _ ((rd_T38 l1 x6_1).f1) t205 _ ?side1 ?side2 A8.out).mono ?_); (case side1 => exact Kd.C_below (Kd.C_below HR204_1.out HB.out) lt_); (case side2 => exact HC204_1.out); rintro e w9 ⟨rfl, hb⟩; refine ⟨_, rfl, ?_⟩; replace HB := mk_ (below_step (below_at HB.out) hb); (try clear hb); (try clear hb2); (try clear hk); (try clear hi)))
  go_roundg k1
  case measure => have := HK1.out; omega
  case rel => exact ⟨(Go.bits .and .i64 x5_1 t205), (wrap64 (x6_1 + 1)), (by first | rfl | (simp; done) | (simp [*]; done)), (by first | rfl | (simp; done) | (simp [*]; done)), H', ⟨by have := HK1.out; omega⟩, ⟨below_at HB.out⟩⟩

/-! ### spec_StoryTable: function 92 -/
def spec_StoryTable.f (k : Nat) (a0 : Int) (l1 : List (S38)) : Option (Int) := (spec_StoryOk.f k a0 l1).bind fun t206 => (if t206 = true then ((spec_l4Story.f k a0 l1).bind fun t207 => (some t207)) else (some (-1)))
theorem spec_StoryTable.mono : ∀ a0 a1 k, LeO (spec_StoryTable.f k a0 a1) (spec_StoryTable.f (k + 1) a0 a1) := by
 intro a0 a1 k
 unfold spec_StoryTable.f
 repeat' first
   | (with_reducible exact spec_StoryOk.mono _ _ _)
   | (with_reducible exact spec_l4Story.mono _ _ _)
   | (with_reducible exact LeO.refl _)
   | (with_reducible exact LeO.none _)
   | (with_reducible refine LeO.ite ?_ ?_)
   | (with_reducible refine LeO.bind ?_ (fun _ => ?_))
set_option maxHeartbeats 8000000 in
set_option maxRecDepth 100000 in
theorem spec_StoryTable.calls (k : Nat) (a0 : Int) (A1 : Option Addr) (c1 : Nat) (l1 : List (S38)) (r : Int) (w : World) (hr1 : Kd.C k38 w A1 l1.length l1) (hc1 : l1.length ≤ c1) (h : spec_StoryTable.f k a0 l1 = some r) :
  Calls Try.prog 92 #[.int .i64 a0, .slice A1 l1.length c1] w fun e w' => e = .returned (.int .i64 r) ∧ Below w.heap.size w w' := by
 have HR1 := mk_ hr1
 have HC1 := mk_ hc1
 clear hr1 hc1
 have HB := mk_ (Below.refl w.heap.size w)
 unfold spec_StoryTable.f at h
 have H := h
 clear h
 replace H := Option.bind_eq_some_iff.mp H
 obtain ⟨t206, A30, H⟩ := H
 try dsimp only at H
 have A3 := mk_ A30
 clear A30
 by_cases c4 : t206 = true
 rotate_left
 ·replace c4 := Bool.eq_false_iff.mpr c4
  subst c4
  rw [if_neg (show ¬ (false = true) by decide)] at H
  obtain rfl := Option.some.inj H
  go_enter Try.func92, Try.ntmps92
  go_wp2_with (first | ((with_reducible refine gate_callee (f := 27) rfl ?_); refine goesL_ (some 7) rfl rfl Try.func27 (by kernel_rfl) rfl #[.int .i64 a0, .slice A1 l1.length c1] rfl gl_ ?_; (with_reducible refine (spec_StoryOk.calls k a0 _ _ l1 false _ ?side1 ?side2 A3.out).mono ?_); (case side1 => exact Kd.C_below HR1.out lt_); (case side2 => exact HC1.out); rintro e w8 ⟨rfl, hb⟩; refine ⟨_, rfl, ?_⟩; replace HB := mk_ (below_step (below_at HB.out) hb); (try clear hb); (try clear hb2); (try clear hk); (try clear hi)))
  go_ret
  exact ⟨er_, below_at HB.out⟩
 subst c4
 rw [if_pos rfl] at H
 replace H := Option.bind_eq_some_iff.mp H
 obtain ⟨t207, A50, H⟩ := H
 replace H : (some t207) = some r := H
 have A5 := mk_ A50
 clear A50
 obtain rfl := Option.some.inj H
 go_enter Try.func92, Try.ntmps92
 go_wp2_with (first | ((with_reducible refine gate_callee (f := 27) rfl ?_); refine goesL_ (some 7) rfl rfl Try.func27 (by kernel_rfl) rfl #[.int .i64 a0, .slice A1 l1.length c1] rfl gl_ ?_; (with_reducible refine (spec_StoryOk.calls k a0 _ _ l1 true _ ?side1 ?side2 A3.out).mono ?_); (case side1 => exact Kd.C_below HR1.out lt_); (case side2 => exact HC1.out); rintro e w6 ⟨rfl, hb⟩; refine ⟨_, rfl, ?_⟩; replace HB := mk_ (below_step (below_at HB.out) hb); (try clear hb); (try clear hb2); (try clear hk); (try clear hi)) | ((with_reducible refine gate_callee (f := 108) rfl ?_); refine goesL_ (some 11) rfl rfl Try.func108 (by kernel_rfl) rfl #[.int .i64 a0, .slice A1 l1.length c1] rfl gl_ ?_; (with_reducible refine (spec_l4Story.calls k a0 _ _ l1 t207 _ ?side1 ?side2 A5.out).mono ?_); (case side1 => exact Kd.C_below (Kd.C_below HR1.out HB.out) lt_); (case side2 => exact HC1.out); rintro e w7 ⟨rfl, hb⟩; refine ⟨_, rfl, ?_⟩; replace HB := mk_ (below_step (below_at HB.out) hb); (try clear hb); (try clear hb2); (try clear hk); (try clear hi)))
 go_ret
 exact ⟨er_, below_at HB.out⟩

/-! ### spec_l20Proved: function 63 -/
def spec_l20Proved.j0 : Nat → Int → List (S38) → List (S47) → List Int → Bool → List Int → Int → Option (Int × (List (S38)) × (List (S47)) × Int)
 | 0, _, _, _, _, _, _, _ => none
 | k + 1, x5, x6, x7, x8, x30, x1000, x1001 => if x30 = true then ((spec_l20Rd_pick.f k x1000 x1001 x5).bind fun bt223 => ((some (([(⟨0, bt223.1⟩ : S47)] : List (S47)) : List (S47))).bind fun y225 => (if 0 < (x8.length : Int) then (if 0 ≤ bt223.1 then (if (Int.tmod (shr .i64 (rd x8 0) bt223.1) 2) = 0 then (if y225.length < 8796093022208 then (some (x5, x6, (y225 ++ [(⟨2, 0⟩ : S47)]), bt223.2)) else (none)) else (some (x5, x6, y225, bt223.2))) else (none)) else (none)))) else (some (x5, x6, x7, x1001))
def spec_l20Proved.f (k : Nat) (s0_0 : List Int) (s0_1 : Int) : Option (Int × (List (S38)) × (List (S47)) × Int) := (spec_l20Story.f k s0_0 s0_1 14).bind fun bt208 => ((spec_l20Term.f k s0_0 bt208.2.2 bt208.1 14).bind fun bt213 => ((spec_StoryTable.f k bt208.1 bt208.2.1).bind fun t217 => ((spec_WorldsIn.f k bt208.1 t217).bind fun t218 => (if (t218.length : Int) > 0 then ((spec_l20Rd_pick.f k s0_0 bt213.2 2).bind fun bt221 => (spec_l20Proved.j0 k bt208.1 bt208.2.1 bt213.1 t218 (bt221.1 == 0) s0_0 bt221.2)) else (spec_l20Proved.j0 k bt208.1 bt208.2.1 bt213.1 t218 false s0_0 bt213.2)))))
theorem spec_l20Proved.mono_l : ∀ k, (∀ y0 y1 y2 y3 y4 y5 y6, LeO (spec_l20Proved.j0 k y0 y1 y2 y3 y4 y5 y6) (spec_l20Proved.j0 (k + 1) y0 y1 y2 y3 y4 y5 y6))
 | 0 => fun _ _ _ _ _ _ _ r h => by simp [spec_l20Proved.j0] at h
 | k + 1 => by
  have ih0 := spec_l20Proved.mono_l k
  ·intro y0 y1 y2 y3 y4 y5 y6
   unfold spec_l20Proved.j0
   repeat' first
   | (with_reducible exact ih0 _ _ _ _ _ _ _)
   | (with_reducible exact spec_StoryTable.mono _ _ _)
   | (with_reducible exact spec_WorldsIn.mono _ _ _)
   | (with_reducible exact spec_l20Rd_pick.mono _ _ _ _)
   | (with_reducible exact spec_l20Story.mono _ _ _ _)
   | (with_reducible exact spec_l20Term.mono _ _ _ _ _)
   | (with_reducible exact LeO.refl _)
   | (with_reducible exact LeO.none _)
   | (with_reducible refine LeO.ite ?_ ?_)
   | (with_reducible refine LeO.bind ?_ (fun _ => ?_))
theorem spec_l20Proved.mono : ∀ a0 a1 k, LeO (spec_l20Proved.f k a0 a1) (spec_l20Proved.f (k + 1) a0 a1) := by
 intro a0 a1 k
 have ih0 := spec_l20Proved.mono_l k
 unfold spec_l20Proved.f
 repeat' first
   | (with_reducible exact ih0 _ _ _ _ _ _ _)
   | (with_reducible exact spec_StoryTable.mono _ _ _)
   | (with_reducible exact spec_WorldsIn.mono _ _ _)
   | (with_reducible exact spec_l20Rd_pick.mono _ _ _ _)
   | (with_reducible exact spec_l20Story.mono _ _ _ _)
   | (with_reducible exact spec_l20Term.mono _ _ _ _ _)
   | (with_reducible exact LeO.refl _)
   | (with_reducible exact LeO.none _)
   | (with_reducible refine LeO.ite ?_ ?_)
   | (with_reducible refine LeO.bind ?_ (fun _ => ?_))
set_option maxHeartbeats 8000000 in
set_option maxRecDepth 100000 in
theorem spec_l20Proved.calls (k : Nat) (g : Nat) (s0_0 : List Int) (s0_1 : Int) (r1 : Int) (r2 : List (S38)) (r3 : List (S47)) (r4 : Int) (w0 w : World) (hI : IsS117 w0 w g s0_0 s0_1) (hB : Below w0.heap.size w0 w) (h : spec_l20Proved.f k s0_0 s0_1 = some (r1, r2, r3, r4)) :
  Calls Try.prog 63 #[.pointer (some ⟨g, 0, none⟩)] w fun e w' => ∃ v1_ v2_ : Value, e = .returned (.tuple #[.int .i64 r1, v1_, v2_]) ∧ Kd.S k38 38 w' w.heap.size (fun k_ => some k_ ≠ (v2_ : Value).ownBlock) v1_ r2 ∧ Kd.R k47 47 w' w.heap.size (fun _ => True) v2_ r3 ∧ IsS117 w0 w' g s0_0 r4 ∧ Below w0.heap.size w0 w' ∧ KeepBut w w' g none := by
 have hu47 := Try.underlying47
 have HI0 := mk_ hI
 have HK := mk_ (KeepBut.refl w g none)
 have HL := mk_ hB.size
 clear hI
 have HW0 := mk_ hB.size
 have HB := mk_ hB
 clear hB
 unfold spec_l20Proved.f at h
 have H := h
 clear h
 replace H := Option.bind_eq_some_iff.mp H
 obtain ⟨⟨t208, t209, t212⟩, A20, H⟩ := H
 try dsimp only at H
 have A2 := mk_ A20
 clear A20
 replace H := Option.bind_eq_some_iff.mp H
 obtain ⟨⟨t213, t216⟩, A30, H⟩ := H
 try dsimp only at H
 have A3 := mk_ A30
 clear A30
 replace H := Option.bind_eq_some_iff.mp H
 obtain ⟨t217, A40, H⟩ := H
 try dsimp only at H
 have A4 := mk_ A40
 clear A40
 replace H := Option.bind_eq_some_iff.mp H
 obtain ⟨t218, A50, H⟩ := H
 try dsimp only at H
 have A5 := mk_ A50
 clear A50
 have HC6 := mk_ H
 clear H
 go_enter Try.func63, Try.ntmps63
 go_upto_region 4 with (first | ((with_reducible refine gate_callee (f := 55) rfl ?_); refine goesL_ (some 12) rfl rfl Try.func55 (by kernel_rfl) rfl #[.pointer (some ⟨g, 0, none⟩), .int .i64 14] rfl gl_ ?_; (with_reducible refine (spec_l20Story.calls k g s0_0 s0_1 14 t208 t209 t212 w0 _ ?side1 ?side2 A2.out).mono ?_); (case side1 => exact IsS117.below HI0.out lt_); (case side2 => exact below_at HB.out); rintro e w7 ⟨v210, rfl, ho0, hi, hb, hk⟩; refine ⟨_, rfl, ?_⟩; have HO211 := mk_ (Kd.S_lower ho0 (keep_size (w := w) (g := g) (row := none) (keep_at HK.out))); replace HK := mk_ (KeepBut.trans (keep_at HK.out) hk (.inl rfl)); replace HB := mk_ (hb); replace HI0 := mk_ (hi); (try clear hb); (try clear hb2); (try clear hk); (try clear hi); (try clear ho0)) | ((with_reducible refine gate_callee (f := 90) rfl ?_); refine goesL_ (some 17) rfl rfl Try.func90 (by kernel_rfl) rfl #[.pointer (some ⟨g, 0, none⟩), .int .i64 t208, .int .i64 14] rfl gl_ ?_; (with_reducible refine (spec_l20Term.calls k g s0_0 t212 t208 14 t213 t216 w0 _ ?side1 ?side2 A3.out).mono ?_); (case side1 => exact IsS117.below HI0.out lt_); (case side2 => exact below_at HB.out); rintro e w8 ⟨v214, rfl, ho0, hi, hb, hk⟩; refine ⟨_, rfl, ?_⟩; replace HO211 := mk_ (Kd.S_mono (Kd.S_told (Kd.S_oldK (IsS117.apartS (show IsS117 w0 _ g s0_0 t212 from IsS117.below HI0.out lt_) (Kd.S_below HO211.out lt_) (by decide)) hk) (Kd.R_base ho0)) (fun _ h_ => h_.1)); have HO215 := mk_ (Kd.R_lower ho0 (keep_size (w := w) (g := g) (row := none) (keep_at HK.out))); replace HK := mk_ (KeepBut.trans (keep_at HK.out) hk (.inl rfl)); replace HB := mk_ (hb); replace HI0 := mk_ (hi); (try clear hb); (try clear hb2); (try clear hk); (try clear hi); (try clear ho0); obtain ⟨Ao9, co9, eo9⟩ := Kd.S_slice HO211.out; subst eo9) | ((with_reducible refine gate_callee (f := 92) rfl ?_); refine goesL_ (some 21) rfl rfl Try.func92 (by kernel_rfl) rfl #[.int .i64 t208, .slice Ao9 t209.length co9] rfl gl_ ?_; (with_reducible refine (spec_StoryTable.calls k t208 _ _ t209 t217 _ ?side1 ?side2 A4.out).mono ?_); (case side1 => exact Kd.C_below (Kd.S_reads' HO211.out).2.2 lt_); (case side2 => exact (Kd.S_reads' HO211.out).2.1); rintro e w10 ⟨rfl, hb⟩; refine ⟨_, rfl, ?_⟩; replace HO211 := mk_ (Kd.S_below (Kd.S_below HO211.out lt_) hb); replace HO215 := mk_ (Kd.R_below (Kd.R_below HO215.out lt_) hb); replace HI0 := mk_ (IsS117.below (IsS117.below HI0.out lt_) hb); replace HK := mk_ (KeepBut.trans (keep_at HK.out) (KeepBut.of_below hb g none) (.inl rfl)); replace HB := mk_ (below_step (below_at HB.out) hb); (try clear hb); (try clear hb2); (try clear hk); (try clear hi)) | ((with_reducible refine gate_callee (f := 91) rfl ?_); refine goesL_ (some 22) rfl rfl Try.func91 (by kernel_rfl) rfl #[.int .i64 t208, .int .i64 t217] rfl gl_ ?_; (with_reducible refine (spec_WorldsIn.calls k t208 t217 t218 _ A5.out).mono ?_); rintro e w11 ⟨v219, rfl, ho0, hb⟩; refine ⟨_, rfl, ?_⟩; replace HO211 := mk_ (Kd.S_below (Kd.S_below HO211.out lt_) hb); replace HO215 := mk_ (Kd.R_below (Kd.R_below HO215.out lt_) hb); have HO220 := mk_ (Kd.R_lower ho0 (keep_size (w := w) (g := g) (row := none) (keep_at HK.out))); replace HI0 := mk_ (IsS117.below (IsS117.below HI0.out lt_) hb); replace HK := mk_ (KeepBut.trans (keep_at HK.out) (KeepBut.of_below hb g none) (.inl rfl)); replace HB := mk_ (below_step (below_at HB.out) hb); (try clear hb); (try clear hb2); (try clear hk); (try clear hi); (try clear ho0)))
 (try simp only [Act.put, z0_, z1_, z2_])
 go_cut [30] (fun v30 wc => ∃ (kq : Nat) (x30_5 : Bool) (x1001_5 : Int), v30 = .bool x30_5 ∧ Aside0 (spec_l20Proved.j0 kq t208 t209 t213 t218 x30_5 s0_0 x1001_5 = some (r1, r2, r3, r4)) ∧ Aside0 (kq ≤ k) ∧ Aside0 (Kd.S k38 38 wc w.heap.size (fun k_ => some k_ ≠ (v214 : Value).ownBlock) (.slice Ao9 t209.length co9) t209) ∧ Aside0 (Kd.R k47 47 wc w.heap.size (fun _ => True) v214 t213) ∧ Aside0 (Kd.R (Kd.int .i64) 3 wc w.heap.size (fun _ => True) v219 t218) ∧ Aside0 (IsS117 w0 wc g s0_0 x1001_5) ∧ Aside0 (KeepBut w wc g none) ∧ Aside0 (Below w0.heap.size w0 wc))
 case first =>
  have H := HC6.out
  clear HC6
  by_cases c12 : (t218.length : Int) > 0
  rotate_left
  ·rw [if_neg c12] at H
   have c12b0 : decide (0 < (t218.length : Int)) = false := decide_eq_false c12
   have c12b1 : decide (0 < t218.length) = false := decide_eq_false (by omega)
   clear c12
   (first | rw [c12b0] | (simp only [i64_w, i32_w]; rw [c12b0]) | skip)
   have H' := mk_ H
   clear H
   obtain ⟨Ao16, co16, eo16⟩ := Kd.R_slice HO220.out
   subst eo16
   go_wp2
   go_meet
   case rel => exact ⟨_, (false), (t216), (by first | rfl | (simp; done) | (simp [*]; done)), H', ⟨by first | omega | exact Nat.le_refl _⟩, ⟨Kd.S_below (Kd.S_mono HO211.out (fun _ hk => hk.2)) lt_⟩, ⟨Kd.R_below HO215.out lt_⟩, ⟨Kd.R_below HO220.out lt_⟩, ⟨IsS117.below HI0.out lt_⟩, ⟨keep_at HK.out⟩, ⟨below_at HB.out⟩⟩
  rw [if_pos c12] at H
  have c12b0 : decide (0 < (t218.length : Int)) = true := decide_eq_true c12
  have c12b1 : decide (0 < t218.length) = true := decide_eq_true (by omega)
  clear c12
  (first | rw [c12b0] | (simp only [i64_w, i32_w]; rw [c12b0]) | skip)
  replace H := Option.bind_eq_some_iff.mp H
  obtain ⟨⟨t221, t222⟩, A130, H⟩ := H
  try dsimp only at H
  have A13 := mk_ A130
  clear A130
  have H' := mk_ H
  clear H
  obtain ⟨Ao14, co14, eo14⟩ := Kd.R_slice HO220.out
  subst eo14
  go_wp2_with (first | (go_at_call 60; (with_reducible refine (spec_l20Rd_pick.calls k g s0_0 t216 2 t221 t222 w0 _ ?side1 ?side2 A13.out).mono ?_); (case side1 => exact IsS117.below HI0.out lt_); (case side2 => exact below_at HB.out); rintro e w15 ⟨rfl, hi, hb, hk⟩; replace HO211 := mk_ (Kd.S_mono (Kd.S_keep (IsS117.apartS (show IsS117 w0 _ g s0_0 t216 from IsS117.below HI0.out lt_) (Kd.S_below HO211.out lt_) (by decide)) hk (fun _ h => h.2)) (fun _ h => h.1)); replace HO215 := mk_ (Kd.R_mono (Kd.R_keep (IsS117.apart (show IsS117 w0 _ g s0_0 t216 from IsS117.below HI0.out lt_) (Kd.R_below HO215.out lt_) (by decide)) hk (fun _ h => h.2)) (fun _ h => h.1)); replace HO220 := mk_ (Kd.R_mono (Kd.R_keep (IsS117.apart (show IsS117 w0 _ g s0_0 t216 from IsS117.below HI0.out lt_) (Kd.R_below HO220.out lt_) (by decide)) hk (fun _ h => h.2)) (fun _ h => h.1)); replace HK := mk_ (KeepBut.trans (keep_at HK.out) hk (.inl rfl)); replace HB := mk_ (hb); replace HI0 := mk_ (hi); (try clear hb); (try clear hb2); (try clear hk); (try clear hi)))
  go_meet
  case rel => exact ⟨_, ((t221 == 0)), (t222), (by first | rfl | (simp; done) | (simp [*]; done)), H', ⟨by first | omega | exact Nat.le_refl _⟩, ⟨Kd.S_below (Kd.S_mono HO211.out (fun _ hk => hk.2)) lt_⟩, ⟨Kd.R_below HO215.out lt_⟩, ⟨Kd.R_below HO220.out lt_⟩, ⟨IsS117.below HI0.out lt_⟩, ⟨keep_at HK.out⟩, ⟨below_at HB.out⟩⟩
 clear HC6
 try clear c1
 try clear p2
 try clear c5
 try clear c6
 try clear c9
 try clear c12
 try clear c12b0
 try clear c12b1
 obtain ⟨kq, x30_5, x1001_5, rfl, HA, HJ5, HO_6, HO_7, HO_8, HI0, HK, HB⟩ := hcut
 cases kq with
 | zero => exact absurd HA.out (by simp [spec_l20Proved.j0])
 | succ kj5 =>
  have H := HA.out
  clear HA
  simp only [spec_l20Proved.j0] at H
  by_cases c17 : x30_5 = true
  rotate_left
  ·replace c17 := Bool.eq_false_iff.mpr c17
   subst c17
   rw [if_neg (show ¬ (false = true) by decide)] at H
   simp only [Option.some.injEq, Prod.mk.injEq] at H
   obtain ⟨rfl, rfl, rfl, rfl⟩ := H
   go_wp2
   go_ret3
   exact ⟨_, _, er_, by (with_reducible repeat (first | apply Kd.S_alloc | apply Kd.S_drewN | apply Kd.S_drew)); exact HO_6.out, by (with_reducible repeat (first | apply Kd.R_alloc | apply Kd.R_drewN | apply Kd.R_drew)); exact HO_7.out, IsS117.below HI0.out lt_, below_at HB.out, keep_at HK.out⟩
  subst c17
  rw [if_pos rfl] at H
  replace H := Option.bind_eq_some_iff.mp H
  obtain ⟨⟨t223, t224⟩, A180, H⟩ := H
  try dsimp only at H
  have A18 := mk_ A180
  clear A180
  obtain ⟨y225, hy225⟩ : ∃ y_ : List (S47), y_ = (([(⟨0, t223⟩ : S47)] : List (S47))) := ⟨_, rfl⟩
  replace H : (if 0 < (t218.length : Int) then (if 0 ≤ t223 then (if (Int.tmod (shr .i64 (rd t218 0) t223) 2) = 0 then (if y225.length < 8796093022208 then (some (t208, t209, (y225 ++ [(⟨2, 0⟩ : S47)]), t224)) else (none)) else (some (t208, t209, y225, t224))) else (none)) else (none)) = some (r1, r2, r3, r4) := by first | (rw [hy225]; exact H) | exact H
  have Ny225 := mk_ hy225
  clear hy225
  by_cases c19 : 0 < (t218.length : Int)
  rotate_left
  ·rw [if_neg c19] at H
   exact absurd H (by simp)
  rw [if_pos c19] at H
  have c19b0 : decide (0 < (t218.length : Int)) = true := decide_eq_true c19
  have c19b1 : decide (0 < t218.length) = true := decide_eq_true (by omega)
  clear c19
  by_cases c20 : 0 ≤ t223
  rotate_left
  ·rw [if_neg c20] at H
   exact absurd H (by simp)
  rw [if_pos c20] at H
  have c20b0 := eq_true c20
  have c20b1 : decide (0 ≤ t223) = true := decide_eq_true c20
  clear c20
  obtain ⟨ji21, hji21⟩ : ∃ j_ : Int, (shr .i64 (rd t218 0) t223) = j_ := ⟨_, rfl⟩
  replace H : (if (Int.tmod (ji21) 2) = 0 then (if y225.length < 8796093022208 then (some (t208, t209, (y225 ++ [(⟨2, 0⟩ : S47)]), t224)) else (none)) else (some (t208, t209, y225, t224))) = some (r1, r2, r3, r4) := by first | (rw [hji21] at H; exact H) | (simp only [hji21] at H ⊢; exact H)
  (try rw [hji21] at A18)
  have hji21_ : ((rd t218 0) / 2 ^ min t223.toNat 64) = ji21 := hji21
  have hji21z : t223 ≤ 64 → ((rd t218 0) / 2 ^ t223.toNat) = ji21 := shr_small hji21
  by_cases c22 : (Int.tmod (ji21) 2) = 0
  rotate_left
  ·rw [if_neg c22] at H
   have c22b0 : ((Int.tmod (ji21) 2) == 0) = false := beq_eq_false_iff_ne.mpr c22
   have c22b1 : ((Int.tmod (ji21) 2) != 0) = true := bne_iff_ne.mpr c22
   simp only [Option.some.injEq, Prod.mk.injEq] at H
   obtain ⟨rfl, rfl, rfl, rfl⟩ := H
   go_wp2_with (first | ((with_reducible refine gate_callee (f := 60) rfl ?_); refine goesL_ (some 33) rfl rfl Try.func60 (by kernel_rfl) rfl #[.pointer (some ⟨g, 0, none⟩), .int .i64 t208] rfl gl_ ?_; (with_reducible refine (spec_l20Rd_pick.calls kj5 g s0_0 x1001_5 t208 t223 t224 w0 _ ?side1 ?side2 A18.out).mono ?_); (case side1 => exact IsS117.below HI0.out lt_); (case side2 => exact below_at HB.out); rintro e w29 ⟨rfl, hi, hb, hk⟩; refine ⟨_, rfl, ?_⟩; replace HO_6 := mk_ (Kd.S_mono (Kd.S_keep (IsS117.apartS (show IsS117 w0 _ g s0_0 x1001_5 from IsS117.below HI0.out lt_) (Kd.S_below HO_6.out lt_) (by decide)) hk (fun _ h => h.2)) (fun _ h => h.1)); replace HO_7 := mk_ (Kd.R_mono (Kd.R_keep (IsS117.apart (show IsS117 w0 _ g s0_0 x1001_5 from IsS117.below HI0.out lt_) (Kd.R_below HO_7.out lt_) (by decide)) hk (fun _ h => h.2)) (fun _ h => h.1)); replace HO_8 := mk_ (Kd.R_mono (Kd.R_keep (IsS117.apart (show IsS117 w0 _ g s0_0 x1001_5 from IsS117.below HI0.out lt_) (Kd.R_below HO_8.out lt_) (by decide)) hk (fun _ h => h.2)) (fun _ h => h.1)); replace HK := mk_ (KeepBut.trans (keep_at HK.out) hk (.inl rfl)); replace HB := mk_ (hb); replace HI0 := mk_ (hi); (try clear hb); (try clear hb2); (try clear hk); (try clear hi)) | ((with_reducible refine gate_dst (N := 36) rfl ?_); refine Kd.R_lit k47 _ 47 ?hg (N := 36) ?hd (xs := ([(⟨0, t223⟩ : S47)] : List (S47))) (inner := [.int .i64 0, .int .i64 t223]) (ok := fun _ => True) (okp := fun _ => True) ?hr ?hp (fun _ hk => hk) trivial (Below.refl _ _) (Nat.le_refl _) (by simp) ?_; (case hd => rfl); (case hg => rfl); (case hr => first | (go_simp; done) | (go_simp; rfl)); (case hp => exact (Reps.c2 (show Kd.M k47 _ _ _ (⟨0, t223⟩ : S47) [.int .i64 0, .int .i64 t223] from (k47_mkM _ _ _ (⟨0, t223⟩ : S47) )) (Reps.none _ _))); intro v226 w30 ho31 hb hg_ hnew_; clear hg_ hnew_; (first | rw [← Ny225.out] at ho31 | (simp only [Int.reduceToNat] at ho31; rw [← Ny225.out] at ho31)); replace HO_6 := mk_ (Kd.S_elder' (Kd.S_below HO_6.out lt_) (Kd.R_base ho31) hb); replace HO_8 := mk_ (Kd.R_below (Kd.R_below HO_8.out lt_) hb); have HO227 := mk_ (Kd.R_lower (Kd.R_new' ho31 (Kd.R_lt (Kd.R_below HO_7.out lt_))) (keep_size (w := w) (g := g) (row := none) (keep_at HK.out))); replace HI0 := mk_ (IsS117.below (IsS117.below HI0.out lt_) hb); replace HK := mk_ (KeepBut.trans (keep_at HK.out) (KeepBut.of_below hb g none) (.inl rfl)); replace HB := mk_ (below_step (below_at HB.out) hb); (try clear HO_7); clear hb ho31; obtain ⟨Ao32, co32, eo32⟩ := Kd.R_slice HO_8.out; subst eo32; have p228 : 0 ≤ (0 : Int) := (by omega); have q228 : 0 < (t218.length : Int) := oa_; obtain ⟨ad228, e228, hx228_0⟩ := Kd.at_int (Kd.R_reads' HO_8.out).2.2 0 p228 q228; cases e228; have qi228 : (0 < t218.length) = True := eq_true (by omega); (try rw [show ((0 : Int)).toNat = 0 from rfl] at hx228_0); (try rw [Addr.add_zero'] at hx228_0); replace p228 := eq_true p228; replace q228 := eq_true q228))
   go_ret3
   exact ⟨_, _, by first | rfl | (simp [errW_none, errW_some] <;> rfl) | (simp only [← hji21]; first | rfl | (simp [errW_none, errW_some] <;> rfl)) | (simp [*, errW_none, errW_some] <;> rfl), by (with_reducible repeat (first | apply Kd.S_alloc | apply Kd.S_drewN | apply Kd.S_drew)); exact Kd.S_mono HO_6.out (fun _ hk => hk.2), by (with_reducible repeat (first | apply Kd.R_alloc | apply Kd.R_drewN | apply Kd.R_drew)); exact Kd.R_mono HO227.out (fun _ hk => trivial), IsS117.below HI0.out lt_, below_at HB.out, keep_at HK.out⟩
  rw [if_pos c22] at H
  have c22b0 : ((Int.tmod (ji21) 2) == 0) = true := beq_iff_eq.mpr c22
  have c22b1 : ((Int.tmod (ji21) 2) != 0) = false := bne_eq_false_iff_eq.mpr c22
  clear c22
  by_cases c23 : y225.length < 8796093022208
  rotate_left
  ·rw [if_neg c23] at H
   exact absurd H (by simp)
  rw [if_pos c23] at H
  have LMc23 := mk_ c23
  clear c23
  obtain ⟨y229, hy229⟩ : ∃ y_ : List (S47), y_ = (y225 ++ [(⟨2, 0⟩ : S47)]) := ⟨_, rfl⟩
  replace H : (some (t208, t209, y229, t224)) = some (r1, r2, r3, r4) := by first | (rw [hy229]; exact H) | exact H
  have Ny229 := mk_ hy229
  clear hy229
  simp only [Option.some.injEq, Prod.mk.injEq] at H
  obtain ⟨rfl, rfl, rfl, rfl⟩ := H
  go_wp2_with (first | ((with_reducible refine gate_callee (f := 60) rfl ?_); refine goesL_ (some 33) rfl rfl Try.func60 (by kernel_rfl) rfl #[.pointer (some ⟨g, 0, none⟩), .int .i64 t208] rfl gl_ ?_; (with_reducible refine (spec_l20Rd_pick.calls kj5 g s0_0 x1001_5 t208 t223 t224 w0 _ ?side1 ?side2 A18.out).mono ?_); (case side1 => exact IsS117.below HI0.out lt_); (case side2 => exact below_at HB.out); rintro e w24 ⟨rfl, hi, hb, hk⟩; refine ⟨_, rfl, ?_⟩; replace HO_6 := mk_ (Kd.S_mono (Kd.S_keep (IsS117.apartS (show IsS117 w0 _ g s0_0 x1001_5 from IsS117.below HI0.out lt_) (Kd.S_below HO_6.out lt_) (by decide)) hk (fun _ h => h.2)) (fun _ h => h.1)); replace HO_7 := mk_ (Kd.R_mono (Kd.R_keep (IsS117.apart (show IsS117 w0 _ g s0_0 x1001_5 from IsS117.below HI0.out lt_) (Kd.R_below HO_7.out lt_) (by decide)) hk (fun _ h => h.2)) (fun _ h => h.1)); replace HO_8 := mk_ (Kd.R_mono (Kd.R_keep (IsS117.apart (show IsS117 w0 _ g s0_0 x1001_5 from IsS117.below HI0.out lt_) (Kd.R_below HO_8.out lt_) (by decide)) hk (fun _ h => h.2)) (fun _ h => h.1)); replace HK := mk_ (KeepBut.trans (keep_at HK.out) hk (.inl rfl)); replace HB := mk_ (hb); replace HI0 := mk_ (hi); (try clear hb); (try clear hb2); (try clear hk); (try clear hi)) | ((with_reducible refine gate_dst (N := 36) rfl ?_); refine Kd.R_lit k47 _ 47 ?hg (N := 36) ?hd (xs := ([(⟨0, t223⟩ : S47)] : List (S47))) (inner := [.int .i64 0, .int .i64 t223]) (ok := fun _ => True) (okp := fun _ => True) ?hr ?hp (fun _ hk => hk) trivial (Below.refl _ _) (Nat.le_refl _) (by simp) ?_; (case hd => rfl); (case hg => rfl); (case hr => first | (go_simp; done) | (go_simp; rfl)); (case hp => exact (Reps.c2 (show Kd.M k47 _ _ _ (⟨0, t223⟩ : S47) [.int .i64 0, .int .i64 t223] from (k47_mkM _ _ _ (⟨0, t223⟩ : S47) )) (Reps.none _ _))); intro v226 w25 ho26 hb hg_ hnew_; clear hg_ hnew_; (first | rw [← Ny225.out] at ho26 | (simp only [Int.reduceToNat] at ho26; rw [← Ny225.out] at ho26)); replace HO_6 := mk_ (Kd.S_elder' (Kd.S_below HO_6.out lt_) (Kd.R_base ho26) hb); replace HO_8 := mk_ (Kd.R_below (Kd.R_below HO_8.out lt_) hb); have HO227 := mk_ (Kd.R_lower (Kd.R_new' ho26 (Kd.R_lt (Kd.R_below HO_7.out lt_))) (keep_size (w := w) (g := g) (row := none) (keep_at HK.out))); replace HO_7 := mk_ (Kd.R_elder' (Kd.R_below HO_7.out lt_) (Kd.R_base ho26) hb); replace HI0 := mk_ (IsS117.below (IsS117.below HI0.out lt_) hb); replace HK := mk_ (KeepBut.trans (keep_at HK.out) (KeepBut.of_below hb g none) (.inl rfl)); replace HB := mk_ (below_step (below_at HB.out) hb); clear hb ho26; obtain ⟨Ao27, co27, eo27⟩ := Kd.R_slice HO_8.out; subst eo27; have p228 : 0 ≤ (0 : Int) := (by omega); have q228 : 0 < (t218.length : Int) := oa_; obtain ⟨ad228, e228, hx228_0⟩ := Kd.at_int (Kd.R_reads' HO_8.out).2.2 0 p228 q228; cases e228; have qi228 : (0 < t218.length) = True := eq_true (by omega); (try rw [show ((0 : Int)).toNat = 0 from rfl] at hx228_0); (try rw [Addr.add_zero'] at hx228_0); replace p228 := eq_true p228; replace q228 := eq_true q228) | ((with_reducible refine gate_builtin (b := .append) (xs := #[.tmp 44, .tmp 46]) rfl ?_); at_builtin; refine Kd.R_append k47 w.heap.size rfl (.tmp 44) (.tmp 46) 36 47 (.agg #[(.int .i64 0), (.int .i64 0)]) 16 rfl Try.underlying36 info47 rfl (by decide) (by omega) v226 y225 (⟨2, 0⟩ : S47) [.int .i64 2, .int .i64 0] (fun k_ => some k_ ≠ (v214 : Value).ownBlock) (fun _ => False) rfl rfl ?aP (fun _ hk => hk.elim) ?aF ?aO (Below.refl _ _) ?aS ?aL ?_; (case aP => exact k47_mkM _ _ _ (⟨2, 0⟩ : S47)); (case aF => exact (fun k_ hk => Kd.fresh' (Kd.R_lt (Kd.R_below HO_7.out lt_)) k_ hk)); (case aO => exact (Kd.R_below (Kd.R_mono HO227.out (fun _ hk => hk.2)) lt_)); (case aS => exact (keep_size (w := w) (g := g) (row := none) (keep_at HK.out))); (case aL => have := LMc23.out; omega); intro v230 w28 ho hb hg hat; rw [← Ny229.out] at ho; replace HO_6 := mk_ (Kd.S_after (ok := (fun k_ => some k_ ≠ (v214 : Value).ownBlock)) (Kd.S_below HO_6.out lt_) hg hat); replace HI0 := mk_ (IsS117.grown (IsS117.below HI0.out lt_) hg (IsS117.own_ne HI0.out HO227.out (by decide))); replace HB := mk_ (below_weaken (below_at HB.out) HL.out hb); replace HK := mk_ (KeepBut.trans (keep_at HK.out) (KeepBut.of_grown hg g) (Kd.R_base2 HO227.out)); have HO231 := mk_ (ho); (try clear HO_7 HO_8 HO227); clear ho hb hg hat))
  go_ret3
  exact ⟨_, _, by first | rfl | (simp [errW_none, errW_some] <;> rfl) | (simp only [← hji21]; first | rfl | (simp [errW_none, errW_some] <;> rfl)) | (simp [*, errW_none, errW_some] <;> rfl), by (with_reducible repeat (first | apply Kd.S_alloc | apply Kd.S_drewN | apply Kd.S_drew)); exact Kd.S_mono HO_6.out (fun _ hk => hk.2), by (with_reducible repeat (first | apply Kd.R_alloc | apply Kd.R_drewN | apply Kd.R_drew)); exact Kd.R_mono HO231.out (fun _ hk => trivial), IsS117.below HI0.out lt_, below_at HB.out, keep_at HK.out⟩

/-! ### spec_DrawFindProof: function 26 -/
def spec_DrawFindProof.f (k : Nat) (l0 : List Int) : Option (Int × (List (S38)) × (List (S47))) := (spec_l20Open.f l0).bind fun bt232 => ((spec_l20Proved.f k bt232.1 bt232.2).bind fun bt235 => (some (bt235.1, bt235.2.1, bt235.2.2.1)))
theorem spec_DrawFindProof.mono : ∀ a0 k, LeO (spec_DrawFindProof.f k a0) (spec_DrawFindProof.f (k + 1) a0) := by
 intro a0 k
 unfold spec_DrawFindProof.f
 repeat' first
   | (with_reducible exact spec_l20Proved.mono _ _ _)
   | (with_reducible exact LeO.refl _)
   | (with_reducible exact LeO.none _)
   | (with_reducible refine LeO.ite ?_ ?_)
   | (with_reducible refine LeO.bind ?_ (fun _ => ?_))
set_option maxHeartbeats 8000000 in
set_option maxRecDepth 100000 in
theorem spec_DrawFindProof.calls (k : Nat) (A0 : Option Addr) (c0 : Nat) (l0 : List Int) (r1 : Int) (r2 : List (S38)) (r3 : List (S47)) (w : World) (hr0 : Kd.C (Kd.int .u8) w A0 l0.length l0) (hc0 : l0.length ≤ c0) (h : spec_DrawFindProof.f k l0 = some (r1, r2, r3)) :
  Calls Try.prog 26 #[.slice A0 l0.length c0] w fun e w' => ∃ v1_ v2_ : Value, e = .returned (.tuple #[.int .i64 r1, v1_, v2_]) ∧ Kd.S k38 38 w' w.heap.size (fun k_ => some k_ ≠ (v2_ : Value).ownBlock) v1_ r2 ∧ Kd.R k47 47 w' w.heap.size (fun _ => True) v2_ r3 ∧ Below w.heap.size w w' := by
 have HR0 := mk_ hr0
 have HC0 := mk_ hc0
 clear hr0 hc0
 have HB := mk_ (Below.refl w.heap.size w)
 unfold spec_DrawFindProof.f at h
 have H := h
 clear h
 replace H := Option.bind_eq_some_iff.mp H
 obtain ⟨⟨t232, t233⟩, A20, H⟩ := H
 try dsimp only at H
 have A2 := mk_ A20
 clear A20
 replace H := Option.bind_eq_some_iff.mp H
 obtain ⟨⟨t235, t236, t239, t242⟩, A30, H⟩ := H
 try dsimp only at H
 have A3 := mk_ A30
 clear A30
 simp only [Option.some.injEq, Prod.mk.injEq] at H
 obtain ⟨rfl, rfl, rfl⟩ := H
 go_enter Try.func26, Try.ntmps26
 go_wp2_with (first | ((with_reducible refine gate_callee (f := 56) rfl ?_); refine goesL_ (some 6) rfl rfl Try.func56 (by kernel_rfl) rfl #[.slice A0 l0.length c0] rfl gl_ ?_; (with_reducible refine (spec_l20Open.calls _ _ l0 t232 t233 w _ ?side1 ?side2 ?side3 A2.out).mono ?_); (case side1 => exact below_at HB.out); (case side2 => exact HR0.out); (case side3 => exact HC0.out); rintro e w4 ⟨g234, rfl, hi, hb, hb2⟩; refine ⟨_, rfl, ?_⟩; replace HB := mk_ (hb); have HI234 := mk_ (hi); (try clear hb); (try clear hb2); (try clear hk); (try clear hi)) | ((with_reducible refine gate_callee (f := 63) rfl ?_); refine goesL_ (some 7) rfl rfl Try.func63 (by kernel_rfl) rfl #[.pointer (some ⟨g234, 0, none⟩)] rfl gl_ ?_; (with_reducible refine (spec_l20Proved.calls k g234 t232 t233 t235 t236 t239 t242 w _ ?side1 ?side2 A3.out).mono ?_); (case side1 => exact IsS117.below HI234.out lt_); (case side2 => exact below_at HB.out); rintro e w5 ⟨v237, v240, rfl, ho0, ho1, hi, hb, hk⟩; refine ⟨_, rfl, ?_⟩; have HO238 := mk_ (Kd.S_lower ho0 (below_size (below_at HB.out))); have HO241 := mk_ (Kd.R_lower ho1 (below_size (below_at HB.out))); replace HB := mk_ (hb); (try clear HI234); (try clear hb); (try clear hb2); (try clear hk); (try clear hi); (try clear ho0); (try clear ho1)))
 go_ret3
 exact ⟨_, _, er_, by (with_reducible repeat (first | apply Kd.S_alloc | apply Kd.S_drewN | apply Kd.S_drew)); exact HO238.out, by (with_reducible repeat (first | apply Kd.R_alloc | apply Kd.R_drewN | apply Kd.R_drew)); exact HO241.out, below_at HB.out⟩

end Go.Proofs.Ytcaogllnbpmcgaa.P

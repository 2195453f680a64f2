/- Go's functions come to just the answers of the Lean functions told here. -/
import Derived.Test.YtcaogllnbpmcgaaPx13
import Derived.Test.YtcaogllnbpmcgaaPx15
namespace Go.Proofs.Ytcaogllnbpmcgaa.P
open Go.RowKit Go.Proofs.YtcaogllnbpmcgaaW.PrintWords Go.Proofs.YtcaogllnbpmcgaaW.PrintLast Go.Proofs.YtcaogllnbpmcgaaW.PrintMore
attribute [local go_sem] max2_int min2_int max_two min_two max_three min_three max_four min_four
set_option linter.unusedVariables false
set_option linter.unusedSimpArgs false

/-! ### impl_storyTable: function 62 -/
def impl_storyTable.l0 : Nat → Int → Int → List (S38) → Int → Int → Option (Int)
 | 0, _, _, _, _, _ => none
 | k + 1, x0, x5, x12, x13, x14 => if x14 < x13 then (if 0 ≤ x14 then (if x14 < (x12.length : Int) then ((impl_ClaimTable.f x0 ((rd_T38 x12 x14).f0) ((rd_T38 x12 x14).f1)).bind fun t354 => (impl_storyTable.l0 k x0 (Go.bits .and .i64 x5 t354) x12 x13 (wrap64 (x14 + 1)))) else (none)) else (none)) else (some x5)
def impl_storyTable.f (k : Nat) (a0 : Int) (l1 : List (S38)) : Option (Int) := if 0 ≤ a0 then (impl_storyTable.l0 k a0 (wrap64 ((shl .i64 1 (shl .u64 1 a0)) - 1)) l1 (l1.length : Int) 0) else (none)
theorem impl_storyTable.mono_l : ∀ k, (∀ y0 y1 y2 y3 y4, LeO (impl_storyTable.l0 k y0 y1 y2 y3 y4) (impl_storyTable.l0 (k + 1) y0 y1 y2 y3 y4))
 | 0 => fun _ _ _ _ _ r h => by simp [impl_storyTable.l0] at h
 | k + 1 => by
  have ih0 := impl_storyTable.mono_l k
  ·intro y0 y1 y2 y3 y4
   unfold impl_storyTable.l0
   repeat' first
   | (with_reducible exact ih0 _ _ _ _ _)
   | (with_reducible exact LeO.refl _)
   | (with_reducible exact LeO.none _)
   | (with_reducible refine LeO.ite ?_ ?_)
   | (with_reducible refine LeO.bind ?_ (fun _ => ?_))
theorem impl_storyTable.mono : ∀ a0 a1 k, LeO (impl_storyTable.f k a0 a1) (impl_storyTable.f (k + 1) a0 a1) := by
 intro a0 a1 k
 have ih0 := impl_storyTable.mono_l k
 unfold impl_storyTable.f
 repeat' first
   | (with_reducible exact ih0 _ _ _ _ _)
   | (with_reducible exact LeO.refl _)
   | (with_reducible exact LeO.none _)
   | (with_reducible refine LeO.ite ?_ ?_)
   | (with_reducible refine LeO.bind ?_ (fun _ => ?_))
set_option maxHeartbeats 8000000 in
set_option maxRecDepth 100000 in
theorem impl_storyTable.calls (k : Nat) (a0 : Int) (A1 : Option Addr) (c1 : Nat) (l1 : List (S38)) (r : Int) (w : World) (hr1 : Kd.C k38 w A1 l1.length l1) (hc1 : l1.length ≤ c1) (h : impl_storyTable.f k a0 l1 = some r) :
  Calls Try.prog 62 #[.int .i64 a0, .slice A1 l1.length c1] w fun e w' => e = .returned (.int .i64 r) ∧ Below w.heap.size w w' := by
 have hu38 := Try.underlying38
 have HR1 := mk_ hr1
 have HC1 := mk_ hc1
 clear hr1 hc1
 have HB := mk_ (Below.refl w.heap.size w)
 unfold impl_storyTable.f at h
 have H := h
 clear h
 by_cases c3 : 0 ≤ a0
 rotate_left
 ·rw [if_neg c3] at H
  exact absurd H (by simp)
 rw [if_pos c3] at H
 have c3b0 := eq_true c3
 have c3b1 : decide (0 ≤ a0) = true := decide_eq_true c3
 clear c3
 obtain ⟨ji4, hji4⟩ : ∃ j_ : Int, (shl .u64 1 a0) = j_ := ⟨_, rfl⟩
 replace H : (impl_storyTable.l0 k a0 (wrap64 ((shl .i64 1 (ji4)) - 1)) l1 (l1.length : Int) 0) = some r := by first | (rw [hji4] at H; exact H) | (simp only [hji4] at H ⊢; exact H)
 have hji4n : 0 ≤ ji4 := by rw [← hji4]; unfold shl; generalize (1 : Int) * 2 ^ min a0.toNat (IntKind.bits .u64) = q_; simp [IntKind.wrap, IntKind.bits, IntKind.signed]; omega
 have hji4e := eq_true hji4n
 have hji4f : decide (ji4 < 0) = false := decide_eq_false (Int.not_lt.mpr hji4n)
 clear hji4n
 have hji4_ : (IntKind.u64.wrap (1 * 2 ^ min a0.toNat 64)) = ji4 := hji4
 have hji4z : a0 ≤ 64 → (IntKind.u64.wrap (1 * 2 ^ a0.toNat)) = ji4 := shl_small hji4
 have hji4u : (IntKind.u64.wrap (2 ^ min a0.toNat 64)) = ji4 := by have h_ := hji4_; rw [Int.one_mul] at h_; exact h_
 have hji4v : a0 ≤ 64 → (IntKind.u64.wrap (2 ^ a0.toNat)) = ji4 := fun hle_ => by have h_ := hji4z hle_; rw [Int.one_mul] at h_; exact h_
 obtain ⟨ji5, hji5⟩ : ∃ j_ : Int, (shl .i64 1 (ji4)) = j_ := ⟨_, rfl⟩
 replace H : (impl_storyTable.l0 k a0 (wrap64 ((ji5) - 1)) l1 (l1.length : Int) 0) = some r := by first | (rw [hji5] at H; exact H) | (simp only [hji5] at H ⊢; exact H)
 have hji5_ : (IntKind.i64.wrap (1 * 2 ^ min (ji4).toNat 64)) = ji5 := hji5
 have hji5z : (ji4) ≤ 64 → (IntKind.i64.wrap (1 * 2 ^ (ji4).toNat)) = ji5 := shl_small hji5
 have hji5u : (IntKind.i64.wrap (2 ^ min (ji4).toNat 64)) = ji5 := by have h_ := hji5_; rw [Int.one_mul] at h_; exact h_
 have hji5v : (ji4) ≤ 64 → (IntKind.i64.wrap (2 ^ (ji4).toNat)) = ji5 := fun hle_ => by have h_ := hji5z hle_; rw [Int.one_mul] at h_; exact h_
 have hji5y : (wrap64 (1 * 2 ^ min (ji4).toNat 64)) = ji5 := (i64_w _).symm.trans hji5_
 have hji5x : (ji4) ≤ 64 → (wrap64 (1 * 2 ^ (ji4).toNat)) = ji5 := fun h_ => (i64_w _).symm.trans (hji5z h_)
 have H' := mk_ H
 clear H
 go_enter Try.func62, Try.ntmps62
 go_wp2
 go_loopg [5, 14] k (fun kq v5 v14 w' => ∃ (x5_1 : Int) (x14_1 : Int), v5 = .int .i64 x5_1 ∧ v14 = .int .i64 x14_1 ∧ Aside0 (impl_storyTable.l0 kq a0 x5_1 l1 (l1.length : Int) x14_1 = some r) ∧ Aside0 (kq ≤ k) ∧ Aside0 (Below w.heap.size w w'))
 case atStart => exact ⟨(wrap64 ((ji5) - 1)), (0), (by first | rfl | (simp; done) | (simp only [← hji5] <;> (first | rfl | simp)) | (simp [*]; done)), (by first | rfl | (simp; done) | (simp [*]; done)), H', ⟨Nat.le_refl _⟩, ⟨below_at HB.out⟩⟩
 clear H'
 try clear c1
 try clear p2
 try clear c3
 try clear c3b0
 try clear c3b1
 obtain ⟨x5_1, x14_1, rfl, rfl, HA, HK1, HB⟩ := hrel
 cases gk with
 | zero => exact absurd HA.out (by simp [impl_storyTable.l0])
 | succ k1 =>
  have H := HA.out
  clear HA
  simp only [impl_storyTable.l0] at H
  by_cases c6 : x14_1 < (l1.length : Int)
  rotate_left
  ·rw [if_neg c6] at H
   have c6b0 : decide (x14_1 < (l1.length : Int)) = false := decide_eq_false c6
   clear c6
   obtain rfl := Option.some.inj H
   go_wp2
   go_ret
   exact ⟨by first | rfl | (simp [errW_none, errW_some] <;> rfl) | (simp only [← hji4, ← hji5]; first | rfl | (simp [errW_none, errW_some] <;> rfl)) | (simp [*, errW_none, errW_some] <;> rfl), below_at HB.out⟩
  rw [if_pos c6] at H
  have c6b0 : decide (x14_1 < (l1.length : Int)) = true := decide_eq_true c6
  clear c6
  by_cases c7 : 0 ≤ x14_1
  rotate_left
  ·rw [if_neg c7] at H
   exact absurd H (by simp)
  rw [if_pos c7] at H
  have c7b0 : decide (0 ≤ x14_1) = true := decide_eq_true c7
  clear c7
  by_cases c8 : x14_1 < (l1.length : Int)
  rotate_left
  ·rw [if_neg c8] at H
   exact absurd H (by simp)
  rw [if_pos c8] at H
  have c8b0 : decide (x14_1 < (l1.length : Int)) = true := decide_eq_true c8
  clear c8
  replace H := Option.bind_eq_some_iff.mp H
  obtain ⟨t354, A90, H⟩ := H
  try dsimp only at H
  have A9 := mk_ A90
  clear A90
  have H' := mk_ H
  clear H
  have p352 : 0 ≤ (x14_1 : Int) := oa_
  have q352 : x14_1 < (l1.length : Int) := oa_
  obtain ⟨ad352, A352_1, c352_1, e352, hx352_0, hx352_1, hl352_1, hi352_1⟩ := at_T38 HR1.out x14_1 p352 q352
  cases e352
  replace hx352_0 := cel HB.out hx352_0
  replace hx352_1 := cel HB.out hx352_1
  have HR352_1 := mk_ hi352_1
  have HC352_1 := mk_ hl352_1
  clear hi352_1 hl352_1
  replace p352 := eq_true p352
  replace q352 := eq_true q352
  go_wp2_with (first | ((with_reducible refine gate_dst (N := 7) rfl ?_); refine box_event ?hg (N := 7) ?hd (cs := #[.int .i64 0, .slice none 0 0]) (t := 38) ?hr ?_; (case hd => rfl); (case hg => rfl); (case hr => first | (go_simp; done) | (go_simp; rfl)); intro gb353 hg w10 hbox hb; have BK353 := mk_ (hbox); have GW353 := mk_ (gb_ hg HB.out); have GE353 := mk_ (gb_ hg HB.out); replace HB := mk_ (below_step (below_at HB.out) hb); clear hb hbox hg; have hcz11_0 := blk_cell BK353.out 0; have hcz11_1 := blk_cell BK353.out 1; have hfz11_0 := blk_frozen BK353.out 0; have hfz11_1 := blk_frozen BK353.out 1) | ((with_reducible refine gate_callee (f := 89) rfl ?_); refine goesL_ (some 21) rfl rfl Try.func89 (by kernel_rfl) rfl #[.int .i64 a0, .agg #[.int .i64 ((rd_T38 l1 x14_1).f0), .slice A352_1 ((rd_T38 l1 x14_1).f1).length c352_1]] rfl gl_ ?_; (with_reducible refine (impl_ClaimTable.calls a0 ((rd_T38 l1 x14_1).f0) _ _ ((rd_T38 l1 x14_1).f1) t354 _ ?side1 ?side2 A9.out).mono ?_); (case side1 => exact Kd.C_below HR352_1.out (at_ HB.out)); (case side2 => exact HC352_1.out); rintro e w12 ⟨rfl, hb⟩; refine ⟨_, rfl, ?_⟩; replace HB := mk_ (below_step (at_ HB.out) hb); (try clear BK353); (try clear hb); (try clear hb2); (try clear hk); (try clear hi)))
  go_roundg k1
  case measure => have := HK1.out; omega
  case rel => exact ⟨(Go.bits .and .i64 x5_1 t354), (wrap64 (x14_1 + 1)), (by first | rfl | (simp; done) | (simp [*]; done)), (by first | rfl | (simp; done) | (simp [*]; done)), H', ⟨by have := HK1.out; omega⟩, ⟨at_ HB.out⟩⟩

/-! ### impl_FollowsFrom: function 44 -/
def impl_FollowsFrom.f (k : Nat) (a0 : Int) (l1 : List (S38)) (l2 : List (S47)) : Option (Bool) := (impl_StoryOk.f k a0 l1).bind fun t355 => (if t355 = true then ((impl_TermOk.f k a0 l2).bind fun t356 => (if t356 = true then ((impl_storyTable.f k a0 l1).bind fun t357 => ((impl_TableOf.f a0 l2).bind fun t358 => (some ((Go.bits .andNot .i64 t357 t358) == 0)))) else (some false))) else (some false))
theorem impl_FollowsFrom.mono : ∀ a0 a1 a2 k, LeO (impl_FollowsFrom.f k a0 a1 a2) (impl_FollowsFrom.f (k + 1) a0 a1 a2) := by
 intro a0 a1 a2 k
 unfold impl_FollowsFrom.f
 repeat' first
   | (with_reducible exact impl_StoryOk.mono _ _ _)
   | (with_reducible exact impl_TermOk.mono _ _ _)
   | (with_reducible exact impl_storyTable.mono _ _ _)
   | (with_reducible exact LeO.refl _)
   | (with_reducible exact LeO.none _)
   | (with_reducible refine LeO.ite ?_ ?_)
   | (with_reducible refine LeO.bind ?_ (fun _ => ?_))
set_option maxHeartbeats 8000000 in
set_option maxRecDepth 100000 in
theorem impl_FollowsFrom.calls (k : Nat) (a0 : Int) (A1 : Option Addr) (c1 : Nat) (l1 : List (S38)) (A2 : Option Addr) (c2 : Nat) (l2 : List (S47)) (r : Bool) (w : World) (hr1 : Kd.C k38 w A1 l1.length l1) (hc1 : l1.length ≤ c1) (hr2 : Kd.C k47 w A2 l2.length l2) (hc2 : l2.length ≤ c2) (h : impl_FollowsFrom.f k a0 l1 l2 = some r) :
  Calls Try.prog 44 #[.int .i64 a0, .slice A1 l1.length c1, .slice A2 l2.length c2] w fun e w' => e = .returned (.bool r) ∧ Below w.heap.size w w' := by
 have HR1 := mk_ hr1
 have HC1 := mk_ hc1
 clear hr1 hc1
 have HR2 := mk_ hr2
 have HC2 := mk_ hc2
 clear hr2 hc2
 have HB := mk_ (Below.refl w.heap.size w)
 unfold impl_FollowsFrom.f at h
 have H := h
 clear h
 replace H := Option.bind_eq_some_iff.mp H
 obtain ⟨t355, A40, H⟩ := H
 try dsimp only at H
 have A4 := mk_ A40
 clear A40
 by_cases c5 : t355 = true
 rotate_left
 ·replace c5 := Bool.eq_false_iff.mpr c5
  subst c5
  rw [if_neg (show ¬ (false = true) by decide)] at H
  obtain rfl := Option.some.inj H
  go_enter Try.func44, Try.ntmps44
  go_wp2_with (first | ((with_reducible refine gate_callee (f := 20) rfl ?_); refine goesL_ (some 9) rfl rfl Try.func20 (by kernel_rfl) rfl #[.int .i64 a0, .slice A1 l1.length c1] rfl gl_ ?_; (with_reducible refine (impl_StoryOk.calls k a0 _ _ l1 false _ ?side1 ?side2 A4.out).mono ?_); (case side1 => exact Kd.C_below HR1.out lt_); (case side2 => exact HC1.out); rintro e w16 ⟨rfl, hb⟩; refine ⟨_, rfl, ?_⟩; replace HB := mk_ (below_step (below_at HB.out) hb); (try clear hb); (try clear hb2); (try clear hk); (try clear hi)))
  go_ret
  exact ⟨er_, below_at HB.out⟩
 subst c5
 rw [if_pos rfl] at H
 replace H := Option.bind_eq_some_iff.mp H
 obtain ⟨t356, A60, H⟩ := H
 try dsimp only at H
 have A6 := mk_ A60
 clear A60
 by_cases c7 : t356 = true
 rotate_left
 ·replace c7 := Bool.eq_false_iff.mpr c7
  subst c7
  rw [if_neg (show ¬ (false = true) by decide)] at H
  obtain rfl := Option.some.inj H
  go_enter Try.func44, Try.ntmps44
  go_wp2_with (first | ((with_reducible refine gate_callee (f := 20) rfl ?_); refine goesL_ (some 9) rfl rfl Try.func20 (by kernel_rfl) rfl #[.int .i64 a0, .slice A1 l1.length c1] rfl gl_ ?_; (with_reducible refine (impl_StoryOk.calls k a0 _ _ l1 true _ ?side1 ?side2 A4.out).mono ?_); (case side1 => exact Kd.C_below HR1.out lt_); (case side2 => exact HC1.out); rintro e w14 ⟨rfl, hb⟩; refine ⟨_, rfl, ?_⟩; replace HB := mk_ (below_step (below_at HB.out) hb); (try clear hb); (try clear hb2); (try clear hk); (try clear hi)) | (go_at_call 65; (with_reducible refine (impl_TermOk.calls k a0 _ _ l2 false _ ?side1 ?side2 A6.out).mono ?_); (case side1 => exact Kd.C_below (Kd.C_below HR2.out HB.out) lt_); (case side2 => exact HC2.out); rintro e w15 ⟨rfl, hb⟩; replace HB := mk_ (below_step (below_at HB.out) hb); (try clear hb); (try clear hb2); (try clear hk); (try clear hi)))
  go_ret
  exact ⟨er_, below_at HB.out⟩
 subst c7
 rw [if_pos rfl] at H
 replace H := Option.bind_eq_some_iff.mp H
 obtain ⟨t357, A80, H⟩ := H
 try dsimp only at H
 have A8 := mk_ A80
 clear A80
 replace H := Option.bind_eq_some_iff.mp H
 obtain ⟨t358, A90, H⟩ := H
 try dsimp only at H
 have A9 := mk_ A90
 clear A90
 obtain rfl := Option.some.inj H
 go_enter Try.func44, Try.ntmps44
 go_wp2_with (first | ((with_reducible refine gate_callee (f := 20) rfl ?_); refine goesL_ (some 9) rfl rfl Try.func20 (by kernel_rfl) rfl #[.int .i64 a0, .slice A1 l1.length c1] rfl gl_ ?_; (with_reducible refine (impl_StoryOk.calls k a0 _ _ l1 true _ ?side1 ?side2 A4.out).mono ?_); (case side1 => exact Kd.C_below HR1.out lt_); (case side2 => exact HC1.out); rintro e w10 ⟨rfl, hb⟩; refine ⟨_, rfl, ?_⟩; replace HB := mk_ (below_step (below_at HB.out) hb); (try clear hb); (try clear hb2); (try clear hk); (try clear hi)) | (go_at_call 65; (with_reducible refine (impl_TermOk.calls k a0 _ _ l2 true _ ?side1 ?side2 A6.out).mono ?_); (case side1 => exact Kd.C_below (Kd.C_below HR2.out HB.out) lt_); (case side2 => exact HC2.out); rintro e w11 ⟨rfl, hb⟩; replace HB := mk_ (below_step (below_at HB.out) hb); (try clear hb); (try clear hb2); (try clear hk); (try clear hi)) | (go_at_call 62; (with_reducible refine (impl_storyTable.calls k a0 _ _ l1 t357 _ ?side1 ?side2 A8.out).mono ?_); (case side1 => exact Kd.C_below (Kd.C_below HR1.out HB.out) lt_); (case side2 => exact HC1.out); rintro e w12 ⟨rfl, hb⟩; replace HB := mk_ (below_step (below_at HB.out) hb); (try clear hb); (try clear hb2); (try clear hk); (try clear hi)) | (go_at_call 81; (with_reducible refine (impl_TableOf.calls a0 _ _ l2 t358 _ ?side1 ?side2 A9.out).mono ?_); (case side1 => exact Kd.C_below (Kd.C_below HR2.out HB.out) lt_); (case side2 => exact HC2.out); rintro e w13 ⟨rfl, hb⟩; replace HB := mk_ (below_step (below_at HB.out) hb); (try clear hb); (try clear hb2); (try clear hk); (try clear hi)))
 go_ret
 exact ⟨er_, below_at HB.out⟩

end Go.Proofs.Ytcaogllnbpmcgaa.P

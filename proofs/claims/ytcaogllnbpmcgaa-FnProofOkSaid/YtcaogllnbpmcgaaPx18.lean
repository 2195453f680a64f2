/- Go's functions come to just the answers of the Lean functions told here. -/
import Derived.Test.YtcaogllnbpmcgaaPx5
import Derived.Test.YtcaogllnbpmcgaaPx13
import Derived.Test.YtcaogllnbpmcgaaPx15
namespace Go.Proofs.Ytcaogllnbpmcgaa.P
open Go.RowKit Go.Proofs.YtcaogllnbpmcgaaW.PrintWords Go.Proofs.YtcaogllnbpmcgaaW.PrintLast Go.Proofs.YtcaogllnbpmcgaaW.PrintMore
attribute [local go_sem] max2_int min2_int max_two min_two max_three min_three max_four min_four
set_option linter.unusedVariables false
set_option linter.unusedSimpArgs false
def impl_storyTable.l0 : Nat → Int → Int → List (S38) → Int → Int → Option (Int)
 | 0, _, _, _, _, _ => none
 | k + 1, x0, x5, x12, x13, x14 => if x14 < x13 then (if 0 ≤ x14 then (if x14 < (x12.length : Int) then ((impl_ClaimTable.f x0 ((rd_T38 x12 x14).f0) ((rd_T38 x12 x14).f1)).bind fun t236 => (impl_storyTable.l0 k x0 (Go.bits .and .i64 x5 t236) x12 x13 (wrap64 (x14 + 1)))) else (none)) else (none)) else (some x5)
def impl_storyTable.f (k : Nat) (a0 : Int) (l1 : List (S38)) : Option (Int) := if 0 ≤ a0 then (impl_storyTable.l0 k a0 (wrap64 ((shl .i64 1 (shl .u64 1 a0)) - 1)) l1 (l1.length : Int) 0) else (none)
set_option maxHeartbeats 8000000 in
set_option maxRecDepth 100000 in
theorem impl_storyTable.calls (k : Nat) (a0 : Int) (A1 : Option Addr) (c1 : Nat) (l1 : List (S38)) (r : Int) (w : World) (hr1 : Kd.C k38 w A1 l1.length l1) (hc1 : l1.length ≤ c1) (h : impl_storyTable.f k a0 l1 = some r) :
  Calls Try.prog 62 #[.int .i64 a0, .slice A1 l1.length c1] w fun e w' => e = .returned (.int .i64 r) ∧ Below w.heap.size w w' := by
 have hu38 := Try.underlying38
 have HR1 := mk_ hr1
 have HC1 := mk_ hc1
 clear hr1 hc1
 have HB := mk_ (Below.refl w.heap.size w)
 unfold impl_storyTable.f at h
 have H := h
 clear h
 by_cases c3 : 0 ≤ a0
 rotate_left
 ·rw [if_neg c3] at H
  exact absurd H (by simp)
 rw [if_pos c3] at H
 have c3b0 := eq_true c3
 have c3b1 : decide (0 ≤ a0) = true := decide_eq_true c3
 clear c3
 obtain ⟨ji4, hji4⟩ : ∃ j_ : Int, (shl .u64 1 a0) = j_ := ⟨_, rfl⟩
 first | rw [hji4] at H | simp only [hji4] at H
 have hji4n : 0 ≤ ji4 := by rw [← hji4]; unfold shl; generalize (1 : Int) * 2 ^ min a0.toNat (IntKind.bits .u64) = q_; simp [IntKind.wrap, IntKind.bits, IntKind.signed]; omega
 have hji4e := eq_true hji4n
 have hji4f : decide (ji4 < 0) = false := decide_eq_false (Int.not_lt.mpr hji4n)
 clear hji4n
 have hji4_ : (IntKind.u64.wrap (1 * 2 ^ min a0.toNat 64)) = ji4 := hji4
 have hji4z : a0 ≤ 64 → (IntKind.u64.wrap (1 * 2 ^ a0.toNat)) = ji4 := shl_small hji4
 have hji4u : (IntKind.u64.wrap (2 ^ min a0.toNat 64)) = ji4 := by have h_ := hji4_; rw [Int.one_mul] at h_; exact h_
 have hji4v : a0 ≤ 64 → (IntKind.u64.wrap (2 ^ a0.toNat)) = ji4 := fun hle_ => by have h_ := hji4z hle_; rw [Int.one_mul] at h_; exact h_
 obtain ⟨ji5, hji5⟩ : ∃ j_ : Int, (shl .i64 1 (ji4)) = j_ := ⟨_, rfl⟩
 first | rw [hji5] at H | simp only [hji5] at H
 have hji5_ : (IntKind.i64.wrap (1 * 2 ^ min (ji4).toNat 64)) = ji5 := hji5
 have hji5z : (ji4) ≤ 64 → (IntKind.i64.wrap (1 * 2 ^ (ji4).toNat)) = ji5 := shl_small hji5
 have hji5u : (IntKind.i64.wrap (2 ^ min (ji4).toNat 64)) = ji5 := by have h_ := hji5_; rw [Int.one_mul] at h_; exact h_
 have hji5v : (ji4) ≤ 64 → (IntKind.i64.wrap (2 ^ (ji4).toNat)) = ji5 := fun hle_ => by have h_ := hji5z hle_; rw [Int.one_mul] at h_; exact h_
 have hji5y : (wrap64 (1 * 2 ^ min (ji4).toNat 64)) = ji5 := (i64_w _).symm.trans hji5_
 have hji5x : (ji4) ≤ 64 → (wrap64 (1 * 2 ^ (ji4).toNat)) = ji5 := fun h_ => (i64_w _).symm.trans (hji5z h_)
 have H' := mk_ H
 clear H
 go_enter Try.func62, Try.ntmps62
 go_wp2
 go_loopg [5, 14] k (fun kq v5 v14 w' => ∃ (x5_1 : Int) (x14_1 : Int), v5 = .int .i64 x5_1 ∧ v14 = .int .i64 x14_1 ∧ Aside0 (impl_storyTable.l0 kq a0 x5_1 l1 (l1.length : Int) x14_1 = some r) ∧ Aside0 (kq ≤ k) ∧ Aside0 (Below w.heap.size w w'))
 case atStart => exact ⟨(wrap64 ((ji5) - 1)), (0), (by first | rfl | (simp; done) | (simp only [← hji5] <;> (first | rfl | simp)) | (simp [*]; done)), sm_, H', ⟨Nat.le_refl _⟩, ⟨below_at HB.out⟩⟩
 clear H'
 try clear c1
 try clear p2
 try clear c3
 try clear c3b0
 try clear c3b1
 obtain ⟨x5_1, x14_1, rfl, rfl, HA, HK1, HB⟩ := hrel
 cases gk with
 | zero => exact absurd HA.out (by simp [impl_storyTable.l0])
 | succ k1 =>
  have H := HA.out
  clear HA
  simp only [impl_storyTable.l0] at H
  by_cases c6 : x14_1 < (l1.length : Int)
  rotate_left
  ·rw [if_neg c6] at H
   have c6b0 : decide (x14_1 < (l1.length : Int)) = false := decide_eq_false c6
   clear c6
   obtain rfl := Option.some.inj H
   go_wp2
   go_ret
   exact ⟨by first | rfl | (simp [errW_none, errW_some] <;> rfl) | (simp only [← hji4, ← hji5]; first | rfl | (simp [errW_none, errW_some] <;> rfl)) | (simp [*, errW_none, errW_some] <;> rfl), below_at HB.out⟩
  rw [if_pos c6] at H
  have c6b0 : decide (x14_1 < (l1.length : Int)) = true := decide_eq_true c6
  clear c6
  by_cases c7 : 0 ≤ x14_1
  rotate_left
  ·rw [if_neg c7] at H
   exact absurd H (by simp)
  rw [if_pos c7] at H
  have c7b0 : decide (0 ≤ x14_1) = true := decide_eq_true c7
  clear c7
  by_cases c8 : x14_1 < (l1.length : Int)
  rotate_left
  ·rw [if_neg c8] at H
   exact absurd H (by simp)
  rw [if_pos c8] at H
  have c8b0 : decide (x14_1 < (l1.length : Int)) = true := decide_eq_true c8
  clear c8
  replace H := Option.bind_eq_some_iff.mp H
  obtain ⟨t236, A90, H⟩ := H
  try dsimp only at H
  have A9 := mk_ A90
  clear A90
  have H' := mk_ H
  clear H
  have p234 : 0 ≤ (x14_1 : Int) := oa_
  have q234 : x14_1 < (l1.length : Int) := oa_
  obtain ⟨ad234, A234_1, c234_1, e234, hx234_0, hx234_1, hl234_1, hi234_1⟩ := at_T38 HR1.out x14_1 p234 q234
  cases e234
  replace hx234_0 := cel HB.out hx234_0
  replace hx234_1 := cel HB.out hx234_1
  have HR234_1 := mk_ hi234_1
  have HC234_1 := mk_ hl234_1
  clear hi234_1 hl234_1
  replace p234 := eq_true p234
  replace q234 := eq_true q234
  go_wp2_with (first | ((with_reducible refine gate_dst (N := 7) rfl ?_); refine bx_ 7 #[.int .i64 0, .slice none 0 0] 38 ?_; intro gb235 hg w10 hbox hb; have BK235 := mk_ (hbox); have GW235 := mk_ (gb_ hg HB.out); have GE235 := mk_ (gb_ hg HB.out); replace HB := mk_ (below_step (below_at HB.out) hb); clear hb hbox hg; have hcz11_0 := blk_cell BK235.out 0; have hcz11_1 := blk_cell BK235.out 1; have hfz11_0 := blk_frozen BK235.out 0; have hfz11_1 := blk_frozen BK235.out 1) | ((with_reducible refine gate_callee (f := 89) rfl ?_); refine goesL_ (some 21) rfl rfl Try.func89 (by kernel_rfl) rfl #[.int .i64 a0, .agg #[.int .i64 ((rd_T38 l1 x14_1).f0), .slice A234_1 ((rd_T38 l1 x14_1).f1).length c234_1]] rfl gl_ ?_; (with_reducible refine (impl_ClaimTable.calls a0 ((rd_T38 l1 x14_1).f0) _ _ ((rd_T38 l1 x14_1).f1) t236 _ ?side1 ?side2 A9.out).mono ?_); (case side1 => exact Kd.C_below HR234_1.out (at_ HB.out)); (case side2 => exact HC234_1.out); rintro e w12 ⟨rfl, hb⟩; refine ⟨_, rfl, ?_⟩; replace HB := mk_ (below_step (at_ HB.out) hb); (try clear BK235); (try clear hb)))
  go_roundg k1
  case measure => have := HK1.out; omega
  case rel => exact ⟨(Go.bits .and .i64 x5_1 t236), (wrap64 (x14_1 + 1)), sm_, sm_, H', ⟨by have := HK1.out; omega⟩, ⟨at_ HB.out⟩⟩
def impl_FollowsFrom.f (k : Nat) (a0 : Int) (l1 : List (S38)) (l2 : List (S47)) : Option (Bool) := (impl_StoryOk.f k a0 l1).bind fun t237 => (if t237 = true then ((impl_TermOk.f k a0 l2).bind fun t238 => (if t238 = true then ((impl_storyTable.f k a0 l1).bind fun t239 => ((impl_TableOf.f a0 l2).bind fun t240 => (some ((Go.bits .andNot .i64 t239 t240) == 0)))) else (some false))) else (some false))
set_option maxHeartbeats 8000000 in
set_option maxRecDepth 100000 in
theorem impl_FollowsFrom.calls (k : Nat) (a0 : Int) (A1 : Option Addr) (c1 : Nat) (l1 : List (S38)) (A2 : Option Addr) (c2 : Nat) (l2 : List (S47)) (r : Bool) (w : World) (hr1 : Kd.C k38 w A1 l1.length l1) (hc1 : l1.length ≤ c1) (hr2 : Kd.C k47 w A2 l2.length l2) (hc2 : l2.length ≤ c2) (h : impl_FollowsFrom.f k a0 l1 l2 = some r) :
  Calls Try.prog 44 #[.int .i64 a0, .slice A1 l1.length c1, .slice A2 l2.length c2] w fun e w' => e = .returned (.bool r) ∧ Below w.heap.size w w' := by
 have HR1 := mk_ hr1
 have HC1 := mk_ hc1
 clear hr1 hc1
 have HR2 := mk_ hr2
 have HC2 := mk_ hc2
 clear hr2 hc2
 have HB := mk_ (Below.refl w.heap.size w)
 unfold impl_FollowsFrom.f at h
 have H := h
 clear h
 replace H := Option.bind_eq_some_iff.mp H
 obtain ⟨t237, A40, H⟩ := H
 try dsimp only at H
 have A4 := mk_ A40
 clear A40
 by_cases c5 : t237 = true
 rotate_left
 ·replace c5 := Bool.eq_false_iff.mpr c5
  subst c5
  rw [if_neg Bool.false_ne_true] at H
  obtain rfl := Option.some.inj H
  go_enter Try.func44, Try.ntmps44
  go_wp2_with (first | ((with_reducible refine gate_callee (f := 20) rfl ?_); refine goesL_ (some 9) rfl rfl Try.func20 (by kernel_rfl) rfl #[.int .i64 a0, .slice A1 l1.length c1] rfl gl_ ?_; (with_reducible refine (impl_StoryOk.calls k a0 _ _ l1 false _ ?side1 ?side2 A4.out).mono ?_); (case side1 => exact Kd.C_below HR1.out lt_); (case side2 => exact HC1.out); rintro e w16 ⟨rfl, hb⟩; refine ⟨_, rfl, ?_⟩; replace HB := mk_ (below_step (below_at HB.out) hb); (try clear hb)))
  go_ret
  exact ⟨er_, below_at HB.out⟩
 subst c5
 rw [if_pos rfl] at H
 replace H := Option.bind_eq_some_iff.mp H
 obtain ⟨t238, A60, H⟩ := H
 try dsimp only at H
 have A6 := mk_ A60
 clear A60
 by_cases c7 : t238 = true
 rotate_left
 ·replace c7 := Bool.eq_false_iff.mpr c7
  subst c7
  rw [if_neg Bool.false_ne_true] at H
  obtain rfl := Option.some.inj H
  go_enter Try.func44, Try.ntmps44
  go_wp2_with (first | ((with_reducible refine gate_callee (f := 20) rfl ?_); refine goesL_ (some 9) rfl rfl Try.func20 (by kernel_rfl) rfl #[.int .i64 a0, .slice A1 l1.length c1] rfl gl_ ?_; (with_reducible refine (impl_StoryOk.calls k a0 _ _ l1 true _ ?side1 ?side2 A4.out).mono ?_); (case side1 => exact Kd.C_below HR1.out lt_); (case side2 => exact HC1.out); rintro e w14 ⟨rfl, hb⟩; refine ⟨_, rfl, ?_⟩; replace HB := mk_ (below_step (below_at HB.out) hb); (try clear hb)) | (go_at_call 65; (with_reducible refine (impl_TermOk.calls k a0 _ _ l2 false _ ?side1 ?side2 A6.out).mono ?_); (case side1 => exact Kd.C_below (Kd.C_below HR2.out HB.out) lt_); (case side2 => exact HC2.out); rintro e w15 ⟨rfl, hb⟩; replace HB := mk_ (below_step (below_at HB.out) hb); (try clear hb)))
  go_ret
  exact ⟨er_, below_at HB.out⟩
 subst c7
 rw [if_pos rfl] at H
 replace H := Option.bind_eq_some_iff.mp H
 obtain ⟨t239, A80, H⟩ := H
 try dsimp only at H
 have A8 := mk_ A80
 clear A80
 replace H := Option.bind_eq_some_iff.mp H
 obtain ⟨t240, A90, H⟩ := H
 try dsimp only at H
 have A9 := mk_ A90
 clear A90
 obtain rfl := Option.some.inj H
 go_enter Try.func44, Try.ntmps44
 go_wp2_with (first | ((with_reducible refine gate_callee (f := 20) rfl ?_); refine goesL_ (some 9) rfl rfl Try.func20 (by kernel_rfl) rfl #[.int .i64 a0, .slice A1 l1.length c1] rfl gl_ ?_; (with_reducible refine (impl_StoryOk.calls k a0 _ _ l1 true _ ?side1 ?side2 A4.out).mono ?_); (case side1 => exact Kd.C_below HR1.out lt_); (case side2 => exact HC1.out); rintro e w10 ⟨rfl, hb⟩; refine ⟨_, rfl, ?_⟩; replace HB := mk_ (below_step (below_at HB.out) hb); (try clear hb)) | (go_at_call 65; (with_reducible refine (impl_TermOk.calls k a0 _ _ l2 true _ ?side1 ?side2 A6.out).mono ?_); (case side1 => exact Kd.C_below (Kd.C_below HR2.out HB.out) lt_); (case side2 => exact HC2.out); rintro e w11 ⟨rfl, hb⟩; replace HB := mk_ (below_step (below_at HB.out) hb); (try clear hb)) | (go_at_call 62; (with_reducible refine (impl_storyTable.calls k a0 _ _ l1 t239 _ ?side1 ?side2 A8.out).mono ?_); (case side1 => exact Kd.C_below (Kd.C_below HR1.out HB.out) lt_); (case side2 => exact HC1.out); rintro e w12 ⟨rfl, hb⟩; replace HB := mk_ (below_step (below_at HB.out) hb); (try clear hb)) | (go_at_call 81; (with_reducible refine (impl_TableOf.calls a0 _ _ l2 t240 _ ?side1 ?side2 A9.out).mono ?_); (case side1 => exact Kd.C_below (Kd.C_below HR2.out HB.out) lt_); (case side2 => exact HC2.out); rintro e w13 ⟨rfl, hb⟩; replace HB := mk_ (below_step (below_at HB.out) hb); (try clear hb)))
 go_ret
 exact ⟨er_, below_at HB.out⟩
/-- A state of type 117 at block g of W; what its slices lead to came in by w0. -/
def IsS117 (w0 W : World) (g : Nat) (f0 : List Int) (f1 : Int) : Prop := ∃ A0 c0, W.heap[g]? = some (.cells #[.slice A0 f0.length c0, .int .i64 f1] 117 (0, 0)) ∧ w0.heap.size ≤ g ∧ Kd.C (Kd.int .u8) w0 A0 f0.length f0
theorem IsS117.grown {w0 W : World} {g : Nat} {f0 : List Int} {f1 : Int} {W1 : World} {row : Option Nat} (h : IsS117 w0 W g f0 f1) (hw : W.grownBy W1 row) (hne : some g ≠ row) : IsS117 w0 W1 g f0 f1 := by
 obtain ⟨A0, c0, hb, hg, hr0⟩ := h
 exact ⟨A0, c0, blk_grown hb hw hne, hg, hr0⟩
theorem IsS117.own_neN {w0 W : World} {g : Nat} {f0 : List Int} {f1 : Int} {α : Type} {d : Kd α} {e : Nat} {base : Nat} {ok : Nat → Prop} {v : Value} {xs : List α} (h : IsS117 w0 W g f0 f1) (ho : Kd.N d e W base ok v xs) (ht : e ≠ 117) : some g ≠ v.ownBlock := by
 obtain ⟨A0, c0, hb, hg, hr0⟩ := h
 exact Kd.N_ne ho hb ht
theorem IsS117.fresh {w0 W : World} {g : Nat} {f0 : List Int} {f1 : Int} (h : IsS117 w0 W g f0 f1) : ∀ k, W.heap.size ≤ k → k ≠ g := by
 obtain ⟨A0, c0, hb, hg, hr0⟩ := h
 exact Kd.freshB hb
theorem IsS117.kept {w0 W : World} {g : Nat} {f0 : List Int} {f1 : Int} {W1 : World} {S : Nat → Prop} (h : IsS117 w0 W g f0 f1) (hk : Kept W W1 S) (hne : ¬ S g) : IsS117 w0 W1 g f0 f1 := by
 obtain ⟨A0, c0, hb, hg, hr0⟩ := h
 exact ⟨A0, c0, blk_kept hb hk hne, hg, hr0⟩
theorem IsS117.below {w0 W : World} {g : Nat} {f0 : List Int} {f1 : Int} {W1 : World} (h : IsS117 w0 W g f0 f1) (hw : Below W.heap.size W W1) : IsS117 w0 W1 g f0 f1 := h.grown (grown_of_below hw none) (by simp)
theorem IsS117.alloc {w0 W : World} {g : Nat} {f0 : List Int} {f1 : Int} (h : IsS117 w0 W g f0 f1) (o : Obj) : IsS117 w0 (W.alloc o) g f0 f1 := h.below (below_alloc (Below.refl _ _) o)
theorem IsS117.drewN {w0 W : World} {g : Nat} {f0 : List Int} {f1 : Int} (h : IsS117 w0 W g f0 f1) (m : Nat) : IsS117 w0 (W.drewN m) g f0 f1 := h
theorem IsS117.drew {w0 W : World} {g : Nat} {f0 : List Int} {f1 : Int} (h : IsS117 w0 W g f0 f1) : IsS117 w0 W.drew g f0 f1 := h
theorem IsS117.at_ {w0 W : World} {g : Nat} {f0 : List Int} {f1 : Int} {w' : World} {m : Nat} (hq : W.drewN m = w') (h : IsS117 w0 W g f0 f1) : IsS117 w0 w' g f0 f1 := by subst hq; exact IsS117.drewN h m
theorem IsS117.apart {w0 W : World} {g : Nat} {f0 : List Int} {f1 : Int} {α : Type} {d : Kd α} {e : Nat} {base : Nat} {ok : Nat → Prop} {v : Value} {xs : List α} (h : IsS117 w0 W g f0 f1) (ho : d.R e W base ok v xs) (ht : ∀ q, q ∈ e :: d.E → q ≠ 117) : d.R e W base (fun k => ok k ∧ k ≠ g) v xs := by
 obtain ⟨A0, c0, hb, hg, hr0⟩ := h
 exact Kd.R_types ho hb ht
theorem IsS117.own_ne {w0 W : World} {g : Nat} {f0 : List Int} {f1 : Int} {α : Type} {d : Kd α} {e : Nat} {base : Nat} {ok : Nat → Prop} {v : Value} {xs : List α} (h : IsS117 w0 W g f0 f1) (ho : d.R e W base ok v xs) (ht : e ≠ 117) : some g ≠ v.ownBlock := by
 obtain ⟨A0, c0, hb, hg, hr0⟩ := h
 exact Kd.R_ne ho hb ht
theorem IsS117.apartQ {w0 W : World} {g : Nat} {f0 : List Int} {f1 : Int} {α : Type} {d : Kd α} {e : Nat} {base : Nat} {ok : Nat → Prop} {v : Value} {xs : List α} (h : IsS117 w0 W g f0 f1) (ho : d.Q e W base ok v xs) (ht : ∀ q, q ∈ e :: d.E → q ≠ 117) : d.Q e W base (fun k => ok k ∧ k ≠ g) v xs := by
 obtain ⟨A0, c0, hb, hg, hr0⟩ := h
 exact Kd.Q_types ho hb ht
theorem IsS117.own_neQ {w0 W : World} {g : Nat} {f0 : List Int} {f1 : Int} {α : Type} {d : Kd α} {e : Nat} {base : Nat} {ok : Nat → Prop} {v : Value} {xs : List α} (h : IsS117 w0 W g f0 f1) (ho : d.Q e W base ok v xs) (ht : e ≠ 117) : some g ≠ v.ownBlock := by
 obtain ⟨A0, c0, hb, hg, hr0⟩ := h
 exact Kd.Q_ne ho hb ht
theorem IsS117.apartS {w0 W : World} {g : Nat} {f0 : List Int} {f1 : Int} {α : Type} {d : Kd α} {e : Nat} {base : Nat} {ok : Nat → Prop} {v : Value} {xs : List α} (h : IsS117 w0 W g f0 f1) (ho : d.S e W base ok v xs) (ht : ∀ q, q ∈ e :: d.E → q ≠ 117) : d.S e W base (fun k => ok k ∧ k ≠ g) v xs := by
 obtain ⟨A0, c0, hb, hg, hr0⟩ := h
 exact Kd.S_types ho hb ht
theorem IsS117.own_neS {w0 W : World} {g : Nat} {f0 : List Int} {f1 : Int} {α : Type} {d : Kd α} {e : Nat} {base : Nat} {ok : Nat → Prop} {v : Value} {xs : List α} (h : IsS117 w0 W g f0 f1) (ho : d.S e W base ok v xs) (ht : e ≠ 117) : some g ≠ v.ownBlock := by
 obtain ⟨A0, c0, hb, hg, hr0⟩ := h
 exact Kd.S_ne ho hb ht
theorem IsS117.lt {w0 W : World} {g : Nat} {f0 : List Int} {f1 : Int} (h : IsS117 w0 W g f0 f1) : g < W.heap.size := by
 obtain ⟨A0, c0, hb, hg, hr0⟩ := h
 exact blk_lt hb
theorem IsS117.ge {w0 W : World} {g : Nat} {f0 : List Int} {f1 : Int} (h : IsS117 w0 W g f0 f1) : w0.heap.size ≤ g := by
 obtain ⟨A0, c0, hb, hg, hr0⟩ := h
 exact hg
theorem IsS117.ne_blk {w0 W : World} {g : Nat} {f0 : List Int} {f1 : Int} {a : Nat} {cs : Array Value} {t : TypeId} {fr : Nat × Nat} (h : IsS117 w0 W g f0 f1) (hb2 : W.heap[a]? = some (.cells cs t fr)) (ht : t ≠ 117) : g ≠ a := by
 obtain ⟨A0, c0, hb, hg, hr0⟩ := h
 rintro rfl
 rw [hb] at hb2
 injection hb2 with hb2
 injection hb2 with _ ht2
 exact ht ht2.symm
theorem IsS117.far {w0 W : World} {g : Nat} {f0 : List Int} {f1 : Int} {p : Addr} (h : IsS117 w0 W g f0 f1) (hne : g ≠ p.block) (u : Value) : IsS117 w0 (W.setCell p u) g f0 f1 := by
 obtain ⟨A0, c0, hb, hg, hr0⟩ := h
 exact ⟨A0, c0, blk_far hb hne u, hg, hr0⟩
theorem cellS117_0 {W : World} {g : Nat} {A0 : Option Addr} {c0 : Nat} {f0 : List Int} {f1 : Int} (h : W.heap[g]? = some (.cells #[.slice A0 f0.length c0, .int .i64 f1] 117 (0, 0))) : W.cell? ⟨g, 0, none⟩ = some (.slice A0 f0.length c0) := (blk_cell h 0).trans rfl
theorem cellS117_1 {W : World} {g : Nat} {A0 : Option Addr} {c0 : Nat} {f0 : List Int} {f1 : Int} (h : W.heap[g]? = some (.cells #[.slice A0 f0.length c0, .int .i64 f1] 117 (0, 0))) : W.cell? ⟨g, 1, none⟩ = some (.int .i64 f1) := (blk_cell h 1).trans rfl
theorem IsS117.set_1 {w0 W : World} {g : Nat} {f0 : List Int} {f1 : Int} (h : IsS117 w0 W g f0 f1) (x : Int) : IsS117 w0 (W.setCell ⟨g, 1, none⟩ (.int .i64 x)) g f0 x := by
 obtain ⟨A0, c0, hb, hg, hr0⟩ := h
 exact ⟨A0, c0, by simpa using blk_set hb 1 (.int .i64 x), hg, hr0⟩
theorem IsS117.new (w0 W : World) (A0 : Option Addr) (c0 : Nat) (f0 : List Int) (f1 : Int) (hB : Below w0.heap.size w0 W) (hr0 : Kd.C (Kd.int .u8) w0 A0 f0.length f0) : IsS117 w0 (W.alloc (.cells #[.slice A0 f0.length c0, .int .i64 f1] 117)) W.heap.size f0 f1 := ⟨A0, c0, by simpa using heap_alloc_new W _, hB.size, hr0⟩
def spec_l20Open.f (l0 : List Int) : Option (List Int × Int) := if (l0.length : Int) > 2000 then (if 2000 ≤ (l0.length : Int) then (some (l0.take 2000, 0)) else (none)) else (some (l0, 0))
set_option maxHeartbeats 8000000 in
set_option maxRecDepth 100000 in
theorem spec_l20Open.calls (A0 : Option Addr) (c0 : Nat) (l0 : List Int) (r1 : List Int) (r2 : Int) (w0 w : World) (hB : Below w0.heap.size w0 w) (hr0 : Kd.C (Kd.int .u8) w0 A0 l0.length l0) (hc0 : l0.length ≤ c0) (h : spec_l20Open.f l0 = some (r1, r2)) :
  Calls Try.prog 56 #[.slice A0 l0.length c0] w fun e w' => ∃ g_ : Nat, e = .returned (.pointer (some ⟨g_, 0, none⟩)) ∧ IsS117 w0 w' g_ r1 r2 ∧ Below w0.heap.size w0 w' ∧ Below w.heap.size w w' := by
 have hu117 := Try.underlying117
 have HR0 := mk_ hr0
 have HC0 := mk_ hc0
 clear hr0 hc0
 have HBW := mk_ (Below.refl w.heap.size w)
 have HW0 := mk_ hB.size
 have HB := mk_ hB
 clear hB
 unfold spec_l20Open.f at h
 have H := h
 clear h
 by_cases c2 : (l0.length : Int) > 2000
 rotate_left
 ·rw [if_neg c2] at H
  have c2b0 : decide (2000 < (l0.length : Int)) = false := decide_eq_false c2
  have c2b1 : decide (2000 < l0.length) = false := decide_eq_false (by omega)
  clear c2
  simp only [Option.some.injEq, Prod.mk.injEq] at H
  obtain ⟨rfl, rfl⟩ := H
  go_enter Try.func56, Try.ntmps56
  go_wp2_with (first | ((with_reducible refine gate_dst (N := 10) rfl ?_); refine bx_ 10 #[.slice A0 l0.length c0, .int .i64 0] 117 ?_; intro gb243 hg w6 hbox hb; replace HB := mk_ (below_step (below_at HB.out) hb); have BK243 := mk_ (hbox); have GW243 := mk_ ((by rw [hg]; exact (below_size (by repeat (first | (with_reducible first | exact HBW.out | apply below_alloc | apply pw_below_drewN | apply below_drew1) | exact HBW.out))) : w.heap.size ≤ gb243)); have GE243 := mk_ ((Nat.le_trans HW0.out (by rw [hg]; exact (below_size (by repeat (first | (with_reducible first | exact HBW.out | apply below_alloc | apply pw_below_drewN | apply below_drew1) | exact HBW.out))) : w.heap.size ≤ gb243) : w0.heap.size ≤ gb243)); replace HBW := mk_ (below_step HBW.out hb); clear hb hbox hg))
  go_ret
  exact ⟨_, rfl, (show IsS117 w0 _ gb243 l0 0 from ⟨_, _, by refine bs_ ?_; exact BK243.out, GE243.out, HR0.out⟩), by repeat (first | (with_reducible first | exact HB.out | apply below_alloc | apply pw_below_drewN | apply below_drew1 | refine below_set ?_ GE243.out) | exact HB.out), by repeat (first | (with_reducible first | exact HBW.out | apply below_alloc | apply pw_below_drewN | apply below_drew1 | refine below_set ?_ GW243.out) | exact HBW.out)⟩
 rw [if_pos c2] at H
 have c2b0 : decide (2000 < (l0.length : Int)) = true := decide_eq_true c2
 have c2b1 : decide (2000 < l0.length) = true := decide_eq_true (by omega)
 clear c2
 by_cases c3 : 2000 ≤ (l0.length : Int)
 rotate_left
 ·rw [if_neg c3] at H
  exact absurd H (by simp)
 rw [if_pos c3] at H
 have c3b0 := eq_true c3
 have c3b1 : decide (2000 ≤ (l0.length : Int)) = true := decide_eq_true c3
 clear c3
 simp only [Option.some.injEq, Prod.mk.injEq] at H
 obtain ⟨rfl, rfl⟩ := H
 obtain ⟨i04, hi04, _, hsz4, _⟩ := info_parts info5
 obtain ⟨hcut4, hA4, hC4⟩ := print_take_of (P := Try.prog) (Value.int .u8) 0 31 5 .i64 Try.underlying31 hi04 hsz4 A0 c0 l0 2000 (by omega) (oa_) HC0.out
 have HR241 := mk_ (Kd.C_of_reads (h1 := fun _ => rfl) (hA4 _ (Kd.reads_of_C HR0.out)))
 have HC241 := mk_ hC4
 clear hA4 hC4 hi04 hsz4
 go_enter Try.func56, Try.ntmps56
 go_wp2_with (first | ((with_reducible refine gate_dst (N := 10) rfl ?_); refine bx_ 10 #[.slice A0 (l0.take 2000).length c0, .int .i64 0] 117 ?_; intro gb242 hg w5 hbox hb; replace HB := mk_ (below_step (below_at HB.out) hb); have BK242 := mk_ (hbox); have GW242 := mk_ ((by rw [hg]; exact (below_size (by repeat (first | (with_reducible first | exact HBW.out | apply below_alloc | apply pw_below_drewN | apply below_drew1) | exact HBW.out))) : w.heap.size ≤ gb242)); have GE242 := mk_ ((Nat.le_trans HW0.out (by rw [hg]; exact (below_size (by repeat (first | (with_reducible first | exact HBW.out | apply below_alloc | apply pw_below_drewN | apply below_drew1) | exact HBW.out))) : w.heap.size ≤ gb242) : w0.heap.size ≤ gb242)); replace HBW := mk_ (below_step HBW.out hb); clear hb hbox hg))
 go_ret
 exact ⟨_, rfl, (show IsS117 w0 _ gb242 (l0.take 2000) 0 from ⟨_, _, by refine bs_ ?_; exact BK242.out, GE242.out, HR241.out⟩), by repeat (first | (with_reducible first | exact HB.out | apply below_alloc | apply pw_below_drewN | apply below_drew1 | refine below_set ?_ GE242.out) | exact HB.out), by repeat (first | (with_reducible first | exact HBW.out | apply below_alloc | apply pw_below_drewN | apply below_drew1 | refine below_set ?_ GW242.out) | exact HBW.out)⟩
mutual
def spec_l11Grow.l0 : Nat → Int → List (S38) → List (S47) → List Int → List (S93) → Int → Int → Option ((List (S93)) × Int × Bool)
 | 0, _, _, _, _, _, _, _ => none
 | k + 1, x0, x1, x2, x3, x4, x13, x14 => if x14 < (x1.length : Int) then ((spec_l11Closes.f k x0 x1 x2 (wrap64 ((-2) - x14)) x3).bind fun t245 => (if t245 = true then (some (x4, wrap64 ((-2) - x14), true)) else (spec_l11Grow.l0 k x0 x1 x2 x3 x4 x13 (wrap64 (x14 + 1))))) else (spec_l11Grow.l1 k x0 x1 x2 x3 x4 x13 (wrap64 (x0 - 1)))
def spec_l11Grow.l1 : Nat → Int → List (S38) → List (S47) → List Int → List (S93) → Int → Int → Option ((List (S93)) × Int × Bool)
 | 0, _, _, _, _, _, _, _ => none
 | k + 1, x0, x1, x2, x3, x4, x13, x15 => if x15 ≥ 0 then (if 0 ≤ x15 then (if x15 < (x3.length : Int) then (if (rd x3 x15) < 0 then (spec_l11Grow.l1 k x0 x1 x2 x3 x4 x15 (wrap64 (x15 - 1))) else (spec_l11Grow.l1 k x0 x1 x2 x3 x4 x13 (wrap64 (x15 - 1)))) else (none)) else (none)) else (if x13 < 0 then (some (x4, (-1), false)) else ((some (([] : List (S93)) : List (S93))).bind fun y247 => (if y247.length + x4.length < 5864062014805 then ((some (y247 ++ x4 : List (S93))).bind fun y250 => (if y250.length < 5864062014805 then ((some (([] : List Int) : List Int)).bind fun y256 => (if y256.length + x3.length < 17592186044416 then ((some (y256 ++ x3 : List Int)).bind fun y259 => (if 0 ≤ x13 then (if x13 < (y259.length : Int) then ((some (([] : List Int) : List Int)).bind fun y263 => (if y263.length + x3.length < 17592186044416 then ((some (y263 ++ x3 : List Int)).bind fun y266 => (if x13 < (y266.length : Int) then ((spec_l11Grow.f k x0 x1 x2 (y259.set (x13 : Int).toNat 0) (y250 ++ [(⟨x13, (-1), (-1)⟩ : S93)])).bind fun bt270 => ((spec_l11Grow.f k x0 x1 x2 (y266.set (x13 : Int).toNat 1) bt270.1).bind fun bt275 => (if 0 ≤ (x4.length : Int) then (if (x4.length : Int) < (bt275.1.length : Int) then ((some (bt275.1.set ((x4.length : Int) : Int).toNat (⟨x13, bt270.2.1, bt275.2.1⟩ : S93) : List (S93))).bind fun y280 => (if bt270.2.2 = true then (some (y280, (x4.length : Int), bt275.2.2)) else (some (y280, (x4.length : Int), false)))) else (none)) else (none)))) else (none))) else (none))) else (none)) else (none))) else (none))) else (none))) else (none))))
def spec_l11Grow.f : Nat → Int → List (S38) → List (S47) → List Int → List (S93) → Option ((List (S93)) × Int × Bool)
 | 0, _, _, _, _, _ => none
 | k + 1, a0, l1, l2, l3, l4 => (spec_l11Closes.f k a0 l1 l2 (-1) l3).bind fun t244 => (if t244 = true then (some (l4, (-1), true)) else (spec_l11Grow.l0 k a0 l1 l2 l3 l4 (-1) 0))
end
set_option maxHeartbeats 8000000 in
set_option maxRecDepth 100000 in
theorem spec_l11Grow.calls (k : Nat) : ∀ (a0 : Int) (A1 : Option Addr) (c1 : Nat) (l1 : List (S38)) (A2 : Option Addr) (c2 : Nat) (l2 : List (S47)) (A3 : Option Addr) (c3 : Nat) (l3 : List Int) (P4_ : Nat → Prop) (u9000_ : Value) (l4 : List (S93)) (r1 : List (S93)) (r2 : Int) (r3 : Bool) (w0 w : World) (hB : Below w0.heap.size w0 w) (hr1 : ∀ W_, Kept w W_ (fun k_ => P4_ k_) → Kd.C k38 W_ A1 l1.length l1) (hc1 : l1.length ≤ c1) (hr2 : ∀ W_, Kept w W_ (fun k_ => P4_ k_) → Kd.C k47 W_ A2 l2.length l2) (hc2 : l2.length ≤ c2) (hr3 : ∀ W_, Kept w W_ (fun k_ => P4_ k_) → Kd.C (Kd.int .i64) W_ A3 l3.length l3) (hc3 : l3.length ≤ c3) (ho4 : Kd.R k93 93 w w0.heap.size P4_ u9000_ l4) (h : spec_l11Grow.f k a0 l1 l2 l3 l4 = some (r1, r2, r3)),
  Calls Try.prog 78 #[.int .i64 a0, .slice A1 l1.length c1, .slice A2 l2.length c2, .slice A3 l3.length c3, u9000_] w fun e w' => ∃ v0_ : Value, e = .returned (.tuple #[v0_, .int .i64 r2, .bool r3]) ∧ Kd.R k93 93 w' w0.heap.size (fun k_ => (P4_ k_ ∨ w.heap.size ≤ k_)) v0_ r1 ∧ Below w0.heap.size w0 w' ∧ Kept w w' (fun k_ => P4_ k_) := by
 induction k using Nat.strongRecOn with
 | _ k ih =>
 intro a0 A1 c1 l1 A2 c2 l2 A3 c3 l3 P4_ u9000_ l4 r1 r2 r3 w0 w hB hr1 hc1 hr2 hc2 hr3 hc3 ho4 h
 cases k with
 | zero => exact absurd h (by simp [spec_l11Grow.f])
 | succ k =>
 simp only [spec_l11Grow.f] at h
 have hu93 := Try.underlying93
 have HR1 := mk_ hr1
 have HC1 := mk_ hc1
 clear hr1 hc1
 have HR2 := mk_ hr2
 have HC2 := mk_ hc2
 clear hr2 hc2
 have HR3 := mk_ hr3
 have HC3 := mk_ hc3
 clear hr3 hc3
 have HO4 := mk_ (show Kd.R k93 93 w w0.heap.size (fun k_ => (P4_ k_ ∨ w.heap.size ≤ k_)) u9000_ l4 from Kd.R_mono ho4 (fun k_ hk => (.inl hk)))
 have HK := mk_ (Kept.refl w (fun k_ => P4_ k_))
 have HW0 := mk_ hB.size
 have HB := mk_ hB
 clear hB
 have H : ((spec_l11Closes.f k a0 l1 l2 (-1) l3).bind fun t244 => (if t244 = true then (some (l4, (-1), true)) else (spec_l11Grow.l0 k a0 l1 l2 l3 l4 (-1) 0))) = some (r1, r2, r3) := h
 clear h
 replace H := Option.bind_eq_some_iff.mp H
 obtain ⟨t244, A60, H⟩ := H
 try dsimp only at H
 have A6 := mk_ A60
 clear A60
 by_cases c7 : t244 = true
 ·subst c7
  rw [if_pos rfl] at H
  simp only [Option.some.injEq, Prod.mk.injEq] at H
  obtain ⟨rfl, rfl, rfl⟩ := H
  go_enter Try.func78, Try.ntmps78
  go_wp2_with (first | ((with_reducible refine gate_callee (f := 95) rfl ?_); refine goesL_ (some 27) rfl rfl Try.func95 (by kernel_rfl) rfl #[.int .i64 a0, .slice A1 l1.length c1, .slice A2 l2.length c2, .int .i64 (-1), .slice A3 l3.length c3] rfl gl_ ?_; (with_reducible refine (spec_l11Closes.calls k a0 _ _ l1 _ _ l2 (-1) _ _ l3 true _ ?side1 ?side2 ?side3 ?side4 ?side5 ?side6 A6.out).mono ?_); (case side1 => exact Kd.C_kept_now HR1.out (kp_ HK.out)); (case side2 => exact HC1.out); (case side3 => exact Kd.C_kept_now HR2.out (kp_ HK.out)); (case side4 => exact HC2.out); (case side5 => exact Kd.C_kept_now HR3.out (kp_ HK.out)); (case side6 => exact HC3.out); rintro e w8 ⟨rfl, hb⟩; refine ⟨_, rfl, ?_⟩; replace HO4 := mk_ (Kd.R_below (Kd.R_below HO4.out lt_) hb); replace HK := mk_ (Kept.below (S := (fun k_ => P4_ k_)) (kp_ HK.out) hb); replace HB := mk_ (below_step (below_at HB.out) hb); (try clear hb)))
  go_ret3
  exact ⟨_, er_, rl_ HO4.out, below_at HB.out, kp_ HK.out⟩
 replace c7 := Bool.eq_false_iff.mpr c7
 subst c7
 rw [if_neg Bool.false_ne_true] at H
 have H' := mk_ H
 clear H
 go_enter Try.func78, Try.ntmps78
 go_wp2_with (first | ((with_reducible refine gate_callee (f := 95) rfl ?_); refine goesL_ (some 27) rfl rfl Try.func95 (by kernel_rfl) rfl #[.int .i64 a0, .slice A1 l1.length c1, .slice A2 l2.length c2, .int .i64 (-1), .slice A3 l3.length c3] rfl gl_ ?_; (with_reducible refine (spec_l11Closes.calls k a0 _ _ l1 _ _ l2 (-1) _ _ l3 false _ ?side1 ?side2 ?side3 ?side4 ?side5 ?side6 A6.out).mono ?_); (case side1 => exact Kd.C_kept_now HR1.out (kp_ HK.out)); (case side2 => exact HC1.out); (case side3 => exact Kd.C_kept_now HR2.out (kp_ HK.out)); (case side4 => exact HC2.out); (case side5 => exact Kd.C_kept_now HR3.out (kp_ HK.out)); (case side6 => exact HC3.out); rintro e w9 ⟨rfl, hb⟩; refine ⟨_, rfl, ?_⟩; replace HO4 := mk_ (Kd.R_below (Kd.R_below HO4.out lt_) hb); replace HK := mk_ (Kept.below (S := (fun k_ => P4_ k_)) (kp_ HK.out) hb); replace HB := mk_ (below_step (below_at HB.out) hb); (try clear hb)))
 go_loopg [14] k (fun kq v14 w' => ∃ (x14_1 : Int), v14 = .int .i64 x14_1 ∧ Aside0 (spec_l11Grow.l0 kq a0 l1 l2 l3 l4 (-1) x14_1 = some (r1, r2, r3)) ∧ Aside0 (kq ≤ k) ∧ Aside0 (Kd.R k93 93 w' w0.heap.size (fun k_ => (P4_ k_ ∨ w.heap.size ≤ k_)) u9000_ l4) ∧ Aside0 (Kept w w' (fun k_ => P4_ k_)) ∧ Aside0 (Below w0.heap.size w0 w'))
 case atStart => exact ⟨(0), sm_, H', ⟨Nat.le_refl _⟩, ⟨Kd.R_below HO4.out lt_⟩, ⟨kp_ HK.out⟩, ⟨below_at HB.out⟩⟩
 clear H'
 try clear c1
 try clear c2
 try clear p2
 try clear c3
 try clear c7
 try clear c9
 obtain ⟨x14_1, rfl, HA, HK1, HO_4, HK, HB⟩ := hrel
 cases gk with
 | zero => exact absurd HA.out (by simp [spec_l11Grow.l0])
 | succ k1 =>
  have H := HA.out
  clear HA
  simp only [spec_l11Grow.l0] at H
  by_cases c10 : x14_1 < (l1.length : Int)
  ·rw [if_pos c10] at H
   have c10b0 : decide (x14_1 < (l1.length : Int)) = true := decide_eq_true c10
   clear c10
   replace H := Option.bind_eq_some_iff.mp H
   obtain ⟨t245, A110, H⟩ := H
   try dsimp only at H
   have A11 := mk_ A110
   clear A110
   by_cases c12 : t245 = true
   ·subst c12
    rw [if_pos rfl] at H
    simp only [Option.some.injEq, Prod.mk.injEq] at H
    obtain ⟨rfl, rfl, rfl⟩ := H
    go_wp2_with (first | ((with_reducible refine gate_callee (f := 95) rfl ?_); refine goesL_ (some 41) rfl rfl Try.func95 (by kernel_rfl) rfl #[.int .i64 a0, .slice A1 l1.length c1, .slice A2 l2.length c2, .int .i64 (wrap64 ((-2) - x14_1)), .slice A3 l3.length c3] rfl gl_ ?_; (with_reducible refine (spec_l11Closes.calls k1 a0 _ _ l1 _ _ l2 (wrap64 ((-2) - x14_1)) _ _ l3 true _ ?side1 ?side2 ?side3 ?side4 ?side5 ?side6 A11.out).mono ?_); (case side1 => exact Kd.C_kept_now HR1.out (kp_ HK.out)); (case side2 => exact HC1.out); (case side3 => exact Kd.C_kept_now HR2.out (kp_ HK.out)); (case side4 => exact HC2.out); (case side5 => exact Kd.C_kept_now HR3.out (kp_ HK.out)); (case side6 => exact HC3.out); rintro e w13 ⟨rfl, hb⟩; refine ⟨_, rfl, ?_⟩; replace HO_4 := mk_ (Kd.R_below (Kd.R_below HO_4.out lt_) hb); replace HK := mk_ (Kept.below (S := (fun k_ => P4_ k_)) (kp_ HK.out) hb); replace HB := mk_ (below_step (below_at HB.out) hb); (try clear hb)))
    go_ret3
    exact ⟨_, er_, rl_ HO_4.out, below_at HB.out, kp_ HK.out⟩
   replace c12 := Bool.eq_false_iff.mpr c12
   subst c12
   rw [if_neg Bool.false_ne_true] at H
   have H' := mk_ H
   clear H
   go_wp2_with (first | ((with_reducible refine gate_callee (f := 95) rfl ?_); refine goesL_ (some 41) rfl rfl Try.func95 (by kernel_rfl) rfl #[.int .i64 a0, .slice A1 l1.length c1, .slice A2 l2.length c2, .int .i64 (wrap64 ((-2) - x14_1)), .slice A3 l3.length c3] rfl gl_ ?_; (with_reducible refine (spec_l11Closes.calls k1 a0 _ _ l1 _ _ l2 (wrap64 ((-2) - x14_1)) _ _ l3 false _ ?side1 ?side2 ?side3 ?side4 ?side5 ?side6 A11.out).mono ?_); (case side1 => exact Kd.C_kept_now HR1.out (kp_ HK.out)); (case side2 => exact HC1.out); (case side3 => exact Kd.C_kept_now HR2.out (kp_ HK.out)); (case side4 => exact HC2.out); (case side5 => exact Kd.C_kept_now HR3.out (kp_ HK.out)); (case side6 => exact HC3.out); rintro e w14 ⟨rfl, hb⟩; refine ⟨_, rfl, ?_⟩; replace HO_4 := mk_ (Kd.R_below (Kd.R_below HO_4.out lt_) hb); replace HK := mk_ (Kept.below (S := (fun k_ => P4_ k_)) (kp_ HK.out) hb); replace HB := mk_ (below_step (below_at HB.out) hb); (try clear hb)))
   go_roundg k1
   case measure => have := HK1.out; omega
   case rel => exact ⟨(wrap64 (x14_1 + 1)), sm_, H', ⟨by have := HK1.out; omega⟩, ⟨Kd.R_below HO_4.out lt_⟩, ⟨kp_ HK.out⟩, ⟨below_at HB.out⟩⟩
  rw [if_neg c10] at H
  have c10b0 : decide (x14_1 < (l1.length : Int)) = false := decide_eq_false c10
  clear c10
  have H' := mk_ H
  clear H
  go_wp2
  go_loopg [13, 15] k1 (fun kq v13 v15 w' => ∃ (x13_2 : Int) (x15_2 : Int), v13 = .int .i64 x13_2 ∧ v15 = .int .i64 x15_2 ∧ Aside0 (spec_l11Grow.l1 kq a0 l1 l2 l3 l4 x13_2 x15_2 = some (r1, r2, r3)) ∧ Aside0 (kq ≤ k1) ∧ Aside0 (Kd.R k93 93 w' w0.heap.size (fun k_ => (P4_ k_ ∨ w.heap.size ≤ k_)) u9000_ l4) ∧ Aside0 (Kept w w' (fun k_ => P4_ k_)) ∧ Aside0 (Below w0.heap.size w0 w'))
  case atStart => exact ⟨((-1)), (wrap64 (a0 - 1)), sm_, sm_, H', ⟨Nat.le_refl _⟩, ⟨Kd.R_below HO_4.out lt_⟩, ⟨kp_ HK.out⟩, ⟨below_at HB.out⟩⟩
  clear H'
  try clear c1
  try clear c2
  try clear p2
  try clear c3
  try clear p6
  try clear c7
  try clear c9
  try clear c10
  try clear c10b0
  try clear c12
  try clear p2
  obtain ⟨x13_2, x15_2, rfl, rfl, HA, HK2, HO_4, HK, HB⟩ := hrel
  cases gk with
  | zero => exact absurd HA.out (by simp [spec_l11Grow.l1])
  | succ k2 =>
   have H := HA.out
   clear HA
   simp only [spec_l11Grow.l1] at H
   by_cases c15 : x15_2 ≥ 0
   ·rw [if_pos c15] at H
    have c15b0 : decide (0 ≤ x15_2) = true := decide_eq_true c15
    clear c15
    by_cases c16 : 0 ≤ x15_2
    rotate_left
    ·rw [if_neg c16] at H
     exact absurd H (by simp)
    rw [if_pos c16] at H
    have c16b0 : decide (0 ≤ x15_2) = true := decide_eq_true c16
    clear c16
    by_cases c17 : x15_2 < (l3.length : Int)
    rotate_left
    ·rw [if_neg c17] at H
     exact absurd H (by simp)
    rw [if_pos c17] at H
    have c17b0 : decide (x15_2 < (l3.length : Int)) = true := decide_eq_true c17
    clear c17
    by_cases c18 : (rd l3 x15_2) < 0
    ·rw [if_pos c18] at H
     have c18b0 : decide ((rd l3 x15_2) < 0) = true := decide_eq_true c18
     clear c18
     have H' := mk_ H
     clear H
     have p246 : 0 ≤ (x15_2 : Int) := oa_
     have q246 : x15_2 < (l3.length : Int) := oa_
     obtain ⟨ad246, e246, hx246_0⟩ := Kd.at_int (Kd.C_kept_now HR3.out HK.out) x15_2 p246 q246
     cases e246
     replace p246 := eq_true p246
     replace q246 := eq_true q246
     go_wp2
     go_roundg k2
     case measure => have := HK1.out; have := HK2.out; omega
     case rel => exact ⟨(x15_2), (wrap64 (x15_2 - 1)), sm_, sm_, H', ⟨by have := HK1.out; have := HK2.out; omega⟩, ⟨Kd.R_below HO_4.out lt_⟩, ⟨kp_ HK.out⟩, ⟨below_at HB.out⟩⟩
    rw [if_neg c18] at H
    have c18b0 : decide ((rd l3 x15_2) < 0) = false := decide_eq_false c18
    clear c18
    have H' := mk_ H
    clear H
    have p246 : 0 ≤ (x15_2 : Int) := oa_
    have q246 : x15_2 < (l3.length : Int) := oa_
    obtain ⟨ad246, e246, hx246_0⟩ := Kd.at_int (Kd.C_kept_now HR3.out HK.out) x15_2 p246 q246
    cases e246
    replace p246 := eq_true p246
    replace q246 := eq_true q246
    go_wp2
    go_roundg k2
    case measure => have := HK1.out; have := HK2.out; omega
    case rel => exact ⟨(x13_2), (wrap64 (x15_2 - 1)), sm_, sm_, H', ⟨by have := HK1.out; have := HK2.out; omega⟩, ⟨Kd.R_below HO_4.out lt_⟩, ⟨kp_ HK.out⟩, ⟨below_at HB.out⟩⟩
   rw [if_neg c15] at H
   have c15b0 : decide (0 ≤ x15_2) = false := decide_eq_false c15
   clear c15
   by_cases c19 : x13_2 < 0
   ·rw [if_pos c19] at H
    have c19b0 : decide (x13_2 < 0) = true := decide_eq_true c19
    clear c19
    simp only [Option.some.injEq, Prod.mk.injEq] at H
    obtain ⟨rfl, rfl, rfl⟩ := H
    go_wp2
    go_ret3
    exact ⟨_, er_, rl_ HO_4.out, below_at HB.out, kp_ HK.out⟩
   rw [if_neg c19] at H
   have c19b0 : decide (x13_2 < 0) = false := decide_eq_false c19
   clear c19
   obtain ⟨y247, hy247⟩ : ∃ y_ : List (S93), y_ = (([] : List (S93))) := ⟨_, rfl⟩
   replace H : (if y247.length + l4.length < 5864062014805 then ((some (y247 ++ l4 : List (S93))).bind fun y250 => (if y250.length < 5864062014805 then ((some (([] : List Int) : List Int)).bind fun y256 => (if y256.length + l3.length < 17592186044416 then ((some (y256 ++ l3 : List Int)).bind fun y259 => (if 0 ≤ x13_2 then (if x13_2 < (y259.length : Int) then ((some (([] : List Int) : List Int)).bind fun y263 => (if y263.length + l3.length < 17592186044416 then ((some (y263 ++ l3 : List Int)).bind fun y266 => (if x13_2 < (y266.length : Int) then ((spec_l11Grow.f k2 a0 l1 l2 (y259.set (x13_2 : Int).toNat 0) (y250 ++ [(⟨x13_2, (-1), (-1)⟩ : S93)])).bind fun bt270 => ((spec_l11Grow.f k2 a0 l1 l2 (y266.set (x13_2 : Int).toNat 1) bt270.1).bind fun bt275 => (if 0 ≤ (l4.length : Int) then (if (l4.length : Int) < (bt275.1.length : Int) then ((some (bt275.1.set ((l4.length : Int) : Int).toNat (⟨x13_2, bt270.2.1, bt275.2.1⟩ : S93) : List (S93))).bind fun y280 => (if bt270.2.2 = true then (some (y280, (l4.length : Int), bt275.2.2)) else (some (y280, (l4.length : Int), false)))) else (none)) else (none)))) else (none))) else (none))) else (none)) else (none))) else (none))) else (none))) else (none)) = some (r1, r2, r3) := by first | (rw [hy247]; exact H) | exact H
   have Ny247 := mk_ hy247
   clear hy247
   by_cases c20 : y247.length + l4.length < 5864062014805
   rotate_left
   ·rw [if_neg c20] at H
    exact absurd H (by simp)
   rw [if_pos c20] at H
   have LMc20 := mk_ c20
   clear c20
   obtain ⟨y250, hy250⟩ : ∃ y_ : List (S93), y_ = (y247 ++ l4) := ⟨_, rfl⟩
   first | (replace H := bn_ hy250 H; try dsimp only at H) | rw [← hy250] at H
   have Ny250 := mk_ hy250
   clear hy250
   by_cases c21 : y250.length < 5864062014805
   rotate_left
   ·rw [if_neg c21] at H
    exact absurd H (by simp)
   rw [if_pos c21] at H
   have LMc21 := mk_ c21
   clear c21
   obtain ⟨y253, hy253⟩ : ∃ y_ : List (S93), y_ = (y250 ++ [(⟨x13_2, (-1), (-1)⟩ : S93)]) := ⟨_, rfl⟩
   first | (replace H := bn_ hy253 H; try dsimp only at H) | rw [← hy253] at H
   have Ny253 := mk_ hy253
   clear hy253
   obtain ⟨y256, hy256⟩ : ∃ y_ : List Int, y_ = (([] : List Int)) := ⟨_, rfl⟩
   replace H : (if y256.length + l3.length < 17592186044416 then ((some (y256 ++ l3 : List Int)).bind fun y259 => (if 0 ≤ x13_2 then (if x13_2 < (y259.length : Int) then ((some (([] : List Int) : List Int)).bind fun y263 => (if y263.length + l3.length < 17592186044416 then ((some (y263 ++ l3 : List Int)).bind fun y266 => (if x13_2 < (y266.length : Int) then ((spec_l11Grow.f k2 a0 l1 l2 (y259.set (x13_2 : Int).toNat 0) y253).bind fun bt270 => ((spec_l11Grow.f k2 a0 l1 l2 (y266.set (x13_2 : Int).toNat 1) bt270.1).bind fun bt275 => (if 0 ≤ (l4.length : Int) then (if (l4.length : Int) < (bt275.1.length : Int) then ((some (bt275.1.set ((l4.length : Int) : Int).toNat (⟨x13_2, bt270.2.1, bt275.2.1⟩ : S93) : List (S93))).bind fun y280 => (if bt270.2.2 = true then (some (y280, (l4.length : Int), bt275.2.2)) else (some (y280, (l4.length : Int), false)))) else (none)) else (none)))) else (none))) else (none))) else (none)) else (none))) else (none)) = some (r1, r2, r3) := by first | (rw [hy256]; exact H) | exact H
   have Ny256 := mk_ hy256
   clear hy256
   by_cases c22 : y256.length + l3.length < 17592186044416
   rotate_left
   ·rw [if_neg c22] at H
    exact absurd H (by simp)
   rw [if_pos c22] at H
   have LMc22 := mk_ c22
   clear c22
   obtain ⟨y259, hy259⟩ : ∃ y_ : List Int, y_ = (y256 ++ l3) := ⟨_, rfl⟩
   first | (replace H := bn_ hy259 H; try dsimp only at H) | rw [← hy259] at H
   have Ny259 := mk_ hy259
   clear hy259
   by_cases c23 : 0 ≤ x13_2
   rotate_left
   ·rw [if_neg c23] at H
    exact absurd H (by simp)
   rw [if_pos c23] at H
   have c23b0 : decide (0 ≤ x13_2) = true := decide_eq_true c23
   clear c23
   by_cases c24 : x13_2 < (y259.length : Int)
   rotate_left
   ·rw [if_neg c24] at H
    exact absurd H (by simp)
   rw [if_pos c24] at H
   have c24b0 : decide (x13_2 < (y259.length : Int)) = true := decide_eq_true c24
   clear c24
   obtain ⟨y262, hy262⟩ : ∃ y_ : List Int, y_ = (y259.set (x13_2 : Int).toNat 0) := ⟨_, rfl⟩
   first | (replace H := bn_ hy262 H; try dsimp only at H) | rw [← hy262] at H
   have Ny262 := mk_ hy262
   clear hy262
   obtain ⟨y263, hy263⟩ : ∃ y_ : List Int, y_ = (([] : List Int)) := ⟨_, rfl⟩
   replace H : (if y263.length + l3.length < 17592186044416 then ((some (y263 ++ l3 : List Int)).bind fun y266 => (if x13_2 < (y266.length : Int) then ((spec_l11Grow.f k2 a0 l1 l2 y262 y253).bind fun bt270 => ((spec_l11Grow.f k2 a0 l1 l2 (y266.set (x13_2 : Int).toNat 1) bt270.1).bind fun bt275 => (if 0 ≤ (l4.length : Int) then (if (l4.length : Int) < (bt275.1.length : Int) then ((some (bt275.1.set ((l4.length : Int) : Int).toNat (⟨x13_2, bt270.2.1, bt275.2.1⟩ : S93) : List (S93))).bind fun y280 => (if bt270.2.2 = true then (some (y280, (l4.length : Int), bt275.2.2)) else (some (y280, (l4.length : Int), false)))) else (none)) else (none)))) else (none))) else (none)) = some (r1, r2, r3) := by first | (rw [hy263]; exact H) | exact H
   have Ny263 := mk_ hy263
   clear hy263
   by_cases c26 : y263.length + l3.length < 17592186044416
   rotate_left
   ·rw [if_neg c26] at H
    exact absurd H (by simp)
   rw [if_pos c26] at H
   have LMc26 := mk_ c26
   clear c26
   obtain ⟨y266, hy266⟩ : ∃ y_ : List Int, y_ = (y263 ++ l3) := ⟨_, rfl⟩
   first | (replace H := bn_ hy266 H; try dsimp only at H) | rw [← hy266] at H
   have Ny266 := mk_ hy266
   clear hy266
   by_cases c27 : x13_2 < (y266.length : Int)
   rotate_left
   ·rw [if_neg c27] at H
    exact absurd H (by simp)
   rw [if_pos c27] at H
   have c27b0 : decide (x13_2 < (y266.length : Int)) = true := decide_eq_true c27
   clear c27
   obtain ⟨y269, hy269⟩ : ∃ y_ : List Int, y_ = (y266.set (x13_2 : Int).toNat 1) := ⟨_, rfl⟩
   first | (replace H := bn_ hy269 H; try dsimp only at H) | rw [← hy269] at H
   have Ny269 := mk_ hy269
   clear hy269
   replace H := Option.bind_eq_some_iff.mp H
   obtain ⟨⟨t270, t273, t274⟩, A290, H⟩ := H
   try dsimp only at H
   have A29 := mk_ A290
   clear A290
   replace H := Option.bind_eq_some_iff.mp H
   obtain ⟨⟨t275, t278, t279⟩, A300, H⟩ := H
   try dsimp only at H
   have A30 := mk_ A300
   clear A300
   by_cases c31 : 0 ≤ (l4.length : Int)
   rotate_left
   ·rw [if_neg c31] at H
    exact absurd H (by simp)
   rw [if_pos c31] at H
   have c31b0 : decide (0 ≤ (l4.length : Int)) = true := decide_eq_true c31
   have c31b1 : decide (0 ≤ l4.length) = true := decide_eq_true (by omega)
   clear c31
   by_cases c32 : (l4.length : Int) < (t275.length : Int)
   rotate_left
   ·rw [if_neg c32] at H
    exact absurd H (by simp)
   rw [if_pos c32] at H
   have c32b0 : decide ((l4.length : Int) < (t275.length : Int)) = true := decide_eq_true c32
   have c32b1 : decide (l4.length < t275.length) = true := decide_eq_true (Int.ofNat_lt.mp c32)
   clear c32
   obtain ⟨y280, hy280⟩ : ∃ y_ : List (S93), y_ = (t275.set ((l4.length : Int) : Int).toNat (⟨x13_2, t273, t278⟩ : S93)) := ⟨_, rfl⟩
   first | (replace H := bn_ hy280 H; try dsimp only at H) | rw [← hy280] at H
   have Ny280 := mk_ hy280
   clear hy280
   by_cases c34 : t274 = true
   ·subst c34
    rw [if_pos rfl] at H
    simp only [Option.some.injEq, Prod.mk.injEq] at H
    obtain ⟨rfl, rfl, rfl⟩ := H
    obtain ⟨Ao35, co35, eo35⟩ := Kd.R_slice HO_4.out
    subst eo35
    go_wp2_with (first | ((with_reducible refine gate_dst (N := 62) rfl ?_); refine Kd.R_lit k93 _ 93 ?hg (N := 62) ?hd (xs := ([] : List (S93))) (inner := []) (ok := fun _ => True) (okp := fun _ => True) ?hr ?hp (fun _ hk => hk) trivial (Below.refl _ _) (Nat.le_refl _) (by simp) ?_; (case hd => rfl); (case hg => rfl); (case hr => first | (go_simp; done) | (go_simp; rfl)); (case hp => exact (Reps.none _ _)); intro v248 w36 ho37 hb hg_ hnew_; clear hg_ hnew_; (first | rw [← Ny247.out] at ho37 | (simp only [Int.reduceToNat] at ho37; rw [← Ny247.out] at ho37)); have HO249 := mk_ (Kd.R_lower (Kd.R_new' (Kd.R_newM (M := fun k_ => (P4_ k_ ∨ w.heap.size ≤ k_)) ho37 (kp_ HK.out).1 (fun k_ h_ => .inr h_)) (Kd.R_lt (Kd.R_below HO_4.out lt_))) (below_size (below_at HB.out))); replace HO_4 := mk_ (Kd.R_elder' (Kd.R_below HO_4.out lt_) (Kd.R_base ho37) hb); replace HK := mk_ (Kept.below (S := (fun k_ => P4_ k_)) (kp_ HK.out) hb); replace HB := mk_ (below_step (below_at HB.out) hb); clear hb ho37) | ((with_reducible refine gate_builtin (b := .append) (xs := #[.tmp 62, .tmp 63]) rfl ?_); at_builtin; refine Kd.R_append_rows k93 (w0 := w0) w0.heap.size rfl (.tmp 62) (.tmp 63) 49 93 (.agg #[(.int .i64 0), (.int .i64 0), (.int .i64 0)]) 24 rfl Try.underlying49 info93 rfl (by decide) (by omega) v248 y247 l4 _ _ _ (fun k_ => (P4_ k_ ∨ w.heap.size ≤ k_) ∧ some k_ ≠ (.slice Ao35 l4.length co35 : Value).ownBlock) (fun _ => False) rfl rfl ?aO ?aR (fun _ _ h => h) (fun _ h => h.elim) ?aF ?aB ?aS ?aL ?_; (case aR => exact Kd.C_below (Kd.R_reads' HO_4.out).2.2 lt_); (case aB => exact (below_at HB.out)); (case aF => exact (fun k_ hk => ⟨(.inr (Nat.le_trans (kp_ HK.out).1 hk)), Kd.fresh' (Kd.R_lt (Kd.R_below HO_4.out lt_)) k_ hk⟩)); (case aO => exact (Kd.R_below (Kd.R_mono HO249.out (fun _ hk => ⟨hk.1.1, hk.2⟩)) lt_)); (case aS => exact (below_size (below_at HB.out))); (case aL => have := LMc20.out; omega); intro v251 w38 ho hb hg hat; rw [← Ny250.out] at ho; replace HO_4 := mk_ (Kd.R_after (ok := (fun k_ => (P4_ k_ ∨ w.heap.size ≤ k_))) (Kd.R_below HO_4.out lt_) hg hat); replace HB := mk_ (hb); replace HK := mk_ (Kept.of_grown (S := (fun k_ => P4_ k_)) hg (kp_ HK.out) (fun k_ e_ => (HO249.out.1 k_ e_).1.1)); have HO252 := mk_ (ho); (try clear HO249); clear ho hb hg hat) | ((with_reducible refine gate_builtin (b := .append) (xs := #[.tmp 64, .tmp 67]) rfl ?_); at_builtin; refine Kd.R_append k93 (w0 := w0) w0.heap.size rfl (.tmp 64) (.tmp 67) 49 93 (.agg #[(.int .i64 0), (.int .i64 0), (.int .i64 0)]) 24 rfl Try.underlying49 info93 rfl (by decide) (by omega) v251 y250 (⟨x13_2, (-1), (-1)⟩ : S93) [.int .i64 x13_2, .int .i64 (-1), .int .i64 (-1)] (fun k_ => (P4_ k_ ∨ w.heap.size ≤ k_) ∧ some k_ ≠ (.slice Ao35 l4.length co35 : Value).ownBlock) (fun _ => False) rfl rfl ?aP (fun _ hk => hk.elim) ?aF ?aO ?aB ?aS ?aL ?_; (case aP => exact k93_mkM _ _ _ (⟨x13_2, (-1), (-1)⟩ : S93)); (case aB => exact (below_at HB.out)); (case aF => exact (fun k_ hk => ⟨(.inr (Nat.le_trans (kp_ HK.out).1 hk)), Kd.fresh' (Kd.R_lt (Kd.R_below HO_4.out lt_)) k_ hk⟩)); (case aO => exact (Kd.R_below HO252.out lt_)); (case aS => exact (below_size (below_at HB.out))); (case aL => have := LMc21.out; omega); intro v254 w39 ho hb hg hat; rw [← Ny253.out] at ho; replace HO_4 := mk_ (Kd.R_after (ok := (fun k_ => (P4_ k_ ∨ w.heap.size ≤ k_))) (Kd.R_below HO_4.out lt_) hg hat); replace HB := mk_ (hb); replace HK := mk_ (Kept.of_grown (S := (fun k_ => P4_ k_)) hg (kp_ HK.out) (fun k_ e_ => (HO252.out.1 k_ e_).1)); have HO255 := mk_ (ho); (try clear HO252); clear ho hb hg hat) | ((with_reducible refine gate_dst (N := 69) rfl ?_); refine Kd.R_lit (Kd.int .i64) _ 3 ?hg (N := 69) ?hd (xs := ([] : List Int)) (inner := []) (ok := fun _ => True) (okp := fun _ => True) ?hr ?hp (fun _ hk => hk) trivial (Below.refl _ _) (Nat.le_refl _) (by simp) ?_; (case hd => rfl); (case hg => rfl); (case hr => first | (go_simp; done) | (go_simp; rfl)); (case hp => exact (Reps.none _ _)); intro v257 w40 ho41 hb hg_ hnew_; clear hg_ hnew_; (first | rw [← Ny256.out] at ho41 | (simp only [Int.reduceToNat] at ho41; rw [← Ny256.out] at ho41)); replace HO_4 := mk_ (Kd.R_below (Kd.R_below HO_4.out lt_) hb); replace HO255 := mk_ (Kd.R_below (Kd.R_below HO255.out lt_) hb); have HO258 := mk_ (Kd.R_lower (Kd.R_newM (M := fun k_ => (P4_ k_ ∨ w.heap.size ≤ k_)) ho41 (kp_ HK.out).1 (fun k_ h_ => .inr h_)) (below_size (below_at HB.out))); replace HK := mk_ (Kept.below (S := (fun k_ => P4_ k_)) (kp_ HK.out) hb); replace HB := mk_ (below_step (below_at HB.out) hb); clear hb ho41) | ((with_reducible refine gate_builtin (b := .append) (xs := #[.tmp 69, .tmp 70]) rfl ?_); at_builtin; refine Kd.R_append_rows (Kd.int .i64) (w0 := w0) w0.heap.size rfl (.tmp 69) (.tmp 70) 42 3 (.int .i64 0) 8 rfl Try.underlying42 info3 rfl (by decide) (by omega) v257 y256 l3 _ _ _ (fun k_ => (P4_ k_ ∨ w.heap.size ≤ k_)) (fun _ => False) rfl rfl ?aO ?aR (fun _ _ h => h) (fun _ h => h.elim) ?aF ?aB ?aS ?aL ?_; (case aR => exact Kd.C_kept_now HR3.out (kp_ HK.out)); (case aB => exact (below_at HB.out)); (case aF => exact (fun k_ hk => (.inr (Nat.le_trans (kp_ HK.out).1 hk)))); (case aO => exact (Kd.R_below (Kd.R_mono HO258.out (fun _ hk => hk.1)) lt_)); (case aS => exact (below_size (below_at HB.out))); (case aL => have := LMc22.out; omega); intro v260 w42 ho hb hg hat; rw [← Ny259.out] at ho; replace HO_4 := mk_ (Kd.R_over' (Kd.R_below HO_4.out lt_) (Kd.R_typed (Kd.R_below HO258.out lt_)) (by decide) hg); replace HO255 := mk_ (Kd.R_over' (Kd.R_below HO255.out lt_) (Kd.R_typed (Kd.R_below HO258.out lt_)) (by decide) hg); replace HB := mk_ (hb); replace HK := mk_ (Kept.of_grown (S := (fun k_ => P4_ k_)) hg (kp_ HK.out) (fun k_ e_ => (HO258.out.1 k_ e_).1)); have HO261 := mk_ (ho); (try clear HO258); clear ho hb hg hat; have p25 : 0 ≤ (x13_2 : Int) := oa_; have q25 : (x13_2 : Int) < ((y259.length : Int) : Int) := oa_; obtain ⟨go25, co25, eo25, gb25, gl25, cl25, HG25⟩ := Kd.R_form HO261.out (by omega); (first | cases eo25 | (injection eo25 with ea_ en_ ec_; (first | subst ea_ | (injection ea_ with ea_; subst ea_)); subst ec_; clear en_)); have GB25 := mk_ gb25; have GG25 := mk_ HG25; clear gb25 gl25 HG25; have HMgo25 := mk_ (show (P4_ go25 ∨ w.heap.size ≤ go25) from (HO261.out.1 _ rfl)); obtain ⟨hx25_0, hf25_0⟩ := Kd.R_celln 0 HO261.out (x13_2 : Int) p25 q25; replace p25 := eq_true p25; replace q25 := eq_true q25; obtain ⟨hy43_, hz43_⟩ := Kd.R_celln 0 HO261.out (x13_2 : Int) (oa_) (oa_); have HP43 := Kd.R_putg HO261.out (x13_2 : Int) 0) | ((with_reducible refine gate_store (t := 3) (p := 74) rfl ?_); refine store_event (t := 3) (p := 74) (v := ?vo_w44) (w1 := (w42.setCell ⟨go25, (x13_2 : Int).toNat, none⟩ (.int .i64 0))) ?hg ?ho ?hn ?hr ?_; (case ho => rfl); (case hg => rfl); (case hn => rfl); (case hr => first | (go_simp; done) | (go_simp; rfl)); intro w44 hw; have hg : w42.grownBy w44 (some go25) := (by rw [hw]; exact HP43.2); have hp_ : Kd.R (Kd.int .i64) 3 w44 w0.heap.size (fun k_ => (P4_ k_ ∨ w.heap.size ≤ k_)) (.slice (some ⟨go25, 0, none⟩) y259.length co25) y262 := (by rw [hw, Ny262.out]; exact HP43.1); clear HP43; replace HO_4 := mk_ (Kd.R_over' (v := (.slice (some ⟨go25, 0, none⟩) y259.length co25)) (Kd.R_below HO_4.out lt_) (Kd.R_typed HO261.out) (by decide) hg); replace HO255 := mk_ (Kd.R_over' (v := (.slice (some ⟨go25, 0, none⟩) y259.length co25)) (Kd.R_below HO255.out lt_) (Kd.R_typed HO261.out) (by decide) hg); replace HB := mk_ ((by rw [hw]; exact below_set (HB.out) GB25.out : Below w0.heap.size w0 w44)); replace HK := mk_ (Kept.of_grown (S := (fun k_ => P4_ k_)) hg (kp_ HK.out) (fun k_ e_ => (HO261.out.1 k_ e_))); replace HO261 := mk_ (hp_); clear hg hw hp_) | ((with_reducible refine gate_dst (N := 75) rfl ?_); refine Kd.R_lit (Kd.int .i64) _ 3 ?hg (N := 75) ?hd (xs := ([] : List Int)) (inner := []) (ok := fun _ => True) (okp := fun _ => True) ?hr ?hp (fun _ hk => hk) trivial (Below.refl _ _) (Nat.le_refl _) (by simp) ?_; (case hd => rfl); (case hg => rfl); (case hr => first | (go_simp; done) | (go_simp; rfl)); (case hp => exact (Reps.none _ _)); intro v264 w45 ho46 hb hg_ hnew_; clear hg_ hnew_; (first | rw [← Ny263.out] at ho46 | (simp only [Int.reduceToNat] at ho46; rw [← Ny263.out] at ho46)); replace HO_4 := mk_ (Kd.R_below (Kd.R_below HO_4.out lt_) hb); replace HO255 := mk_ (Kd.R_below (Kd.R_below HO255.out lt_) hb); have HO265 := mk_ (Kd.R_lower (Kd.R_new' (Kd.R_newM (M := fun k_ => (P4_ k_ ∨ w.heap.size ≤ k_)) ho46 (kp_ HK.out).1 (fun k_ h_ => .inr h_)) (Kd.R_lt (Kd.R_below HO261.out lt_))) (below_size (below_at HB.out))); replace HO261 := mk_ (Kd.R_elder' (Kd.R_below HO261.out lt_) (Kd.R_base ho46) hb); replace HK := mk_ (Kept.below (S := (fun k_ => P4_ k_)) (kp_ HK.out) hb); replace HB := mk_ (below_step (below_at HB.out) hb); clear hb ho46) | ((with_reducible refine gate_builtin (b := .append) (xs := #[.tmp 75, .tmp 76]) rfl ?_); at_builtin; refine Kd.R_append_rows (Kd.int .i64) (w0 := w0) w0.heap.size rfl (.tmp 75) (.tmp 76) 42 3 (.int .i64 0) 8 rfl Try.underlying42 info3 rfl (by decide) (by omega) v264 y263 l3 _ _ _ (fun k_ => (P4_ k_ ∨ w.heap.size ≤ k_) ∧ some k_ ≠ (.slice (some ⟨go25, 0, none⟩) y259.length co25 : Value).ownBlock) (fun _ => False) rfl rfl ?aO ?aR (fun _ _ h => h) (fun _ h => h.elim) ?aF ?aB ?aS ?aL ?_; (case aR => exact Kd.C_kept_now HR3.out (kp_ HK.out)); (case aB => exact (below_at HB.out)); (case aF => exact (fun k_ hk => ⟨(.inr (Nat.le_trans (kp_ HK.out).1 hk)), Kd.fresh' (Kd.R_lt (Kd.R_below HO261.out lt_)) k_ hk⟩)); (case aO => exact (Kd.R_below (Kd.R_mono HO265.out (fun _ hk => ⟨hk.1.1, hk.2⟩)) lt_)); (case aS => exact (below_size (below_at HB.out))); (case aL => have := LMc26.out; omega); intro v267 w47 ho hb hg hat; rw [← Ny266.out] at ho; replace HO_4 := mk_ (Kd.R_over' (Kd.R_below HO_4.out lt_) (Kd.R_typed (Kd.R_below HO265.out lt_)) (by decide) hg); replace HO255 := mk_ (Kd.R_over' (Kd.R_below HO255.out lt_) (Kd.R_typed (Kd.R_below HO265.out lt_)) (by decide) hg); replace HO261 := mk_ (Kd.R_after (ok := (fun k_ => (P4_ k_ ∨ w.heap.size ≤ k_))) (Kd.R_below HO261.out lt_) hg hat); replace HB := mk_ (hb); replace HK := mk_ (Kept.of_grown (S := (fun k_ => P4_ k_)) hg (kp_ HK.out) (fun k_ e_ => (HO265.out.1 k_ e_).1.1)); have HO268 := mk_ (ho); (try clear HO265); clear ho hb hg hat; have p28 : 0 ≤ (x13_2 : Int) := oa_; have q28 : (x13_2 : Int) < ((y266.length : Int) : Int) := oa_; obtain ⟨go28, co28, eo28, gb28, gl28, cl28, HG28⟩ := Kd.R_form HO268.out (by omega); (first | cases eo28 | (injection eo28 with ea_ en_ ec_; (first | subst ea_ | (injection ea_ with ea_; subst ea_)); subst ec_; clear en_)); have GB28 := mk_ gb28; have GG28 := mk_ HG28; clear gb28 gl28 HG28; have HMgo28 := mk_ (show (P4_ go28 ∨ w.heap.size ≤ go28) from (HO268.out.1 _ rfl).1); obtain ⟨hx28_0, hf28_0⟩ := Kd.R_celln 0 HO268.out (x13_2 : Int) p28 q28; replace p28 := eq_true p28; replace q28 := eq_true q28; obtain ⟨hy48_, hz48_⟩ := Kd.R_celln 0 HO268.out (x13_2 : Int) (oa_) (oa_); have HP48 := Kd.R_putg HO268.out (x13_2 : Int) 1) | ((with_reducible refine gate_store (t := 3) (p := 80) rfl ?_); refine store_event (t := 3) (p := 80) (v := ?vo_w49) (w1 := (w47.setCell ⟨go28, (x13_2 : Int).toNat, none⟩ (.int .i64 1))) ?hg ?ho ?hn ?hr ?_; (case ho => rfl); (case hg => rfl); (case hn => rfl); (case hr => first | (go_simp; done) | (go_simp; rfl)); intro w49 hw; have hg : w47.grownBy w49 (some go28) := (by rw [hw]; exact HP48.2); have hp_ : Kd.R (Kd.int .i64) 3 w49 w0.heap.size (fun k_ => (P4_ k_ ∨ w.heap.size ≤ k_) ∧ some k_ ≠ (.slice (some ⟨go25, 0, none⟩) y259.length co25 : Value).ownBlock) (.slice (some ⟨go28, 0, none⟩) y266.length co28) y269 := (by rw [hw, Ny269.out]; exact HP48.1); clear HP48; replace HO_4 := mk_ (Kd.R_over' (v := (.slice (some ⟨go28, 0, none⟩) y266.length co28)) (Kd.R_below HO_4.out lt_) (Kd.R_typed HO268.out) (by decide) hg); replace HO255 := mk_ (Kd.R_over' (v := (.slice (some ⟨go28, 0, none⟩) y266.length co28)) (Kd.R_below HO255.out lt_) (Kd.R_typed HO268.out) (by decide) hg); replace HO261 := mk_ (Kd.R_after (v := (.slice (some ⟨go28, 0, none⟩) y266.length co28)) (v1 := (.slice (some ⟨go28, 0, none⟩) y266.length co28)) (ok := (fun k_ => (P4_ k_ ∨ w.heap.size ≤ k_))) (Kd.R_below HO261.out lt_) hg (.inl rfl)); replace HB := mk_ ((by rw [hw]; exact below_set (HB.out) GB28.out : Below w0.heap.size w0 w49)); replace HK := mk_ (Kept.of_grown (S := (fun k_ => P4_ k_)) hg (kp_ HK.out) (fun k_ e_ => (HO268.out.1 k_ e_).1)); replace HO268 := mk_ (hp_); clear hg hw hp_; obtain ⟨Ao50, co50, eo50⟩ := Kd.R_slice HO255.out; subst eo50) | ((with_reducible refine gate_callee (f := 78) rfl ?_); refine goesL_ (some 87) rfl rfl Try.func78 (by kernel_rfl) rfl #[.int .i64 a0, .slice A1 l1.length c1, .slice A2 l2.length c2, .slice (some ⟨go25, 0, none⟩) y262.length co25, .slice Ao50 y253.length co50] rfl (by (try simp only [List.map_toArray, List.map_cons, List.map_nil]); first | done | (rw [show y262.length = y259.length from (Kd.R_reads' HO261.out).1.symm] <;> rfl) | rfl | (simp only [List.length_drop, List.length_take]; rfl)) ?_; (with_reducible refine (ih k2 (by have := HK1.out; have := HK2.out; omega) a0 _ _ l1 _ _ l2 _ _ y262 (fun k_ => some k_ = (.slice Ao50 y253.length co50 : Value).ownBlock) (.slice Ao50 y253.length co50) y253 t270 t273 true w0 _ ?side1 ?side2 ?side3 ?side4 ?side5 ?side6 ?side7 ?side8 A29.out).mono ?_); (case side1 => exact below_at HB.out); (case side2 => exact Kd.C_kept_call HR1.out (kp_ HK.out) (fun k_ hs_ => (fun e_ => (HO255.out.1 k_ e_.symm).1) hs_)); (case side3 => exact HC1.out); (case side4 => exact Kd.C_kept_call HR2.out (kp_ HK.out) (fun k_ hs_ => (fun e_ => (HO255.out.1 k_ e_.symm).1) hs_)); (case side5 => exact HC2.out); (case side6 => first | exact Kd.C_kept_own ((Kd.R_apart' HO261.out (Kd.R_typed HO255.out) (by decide))) (fun k_ hk_ hs_ => (hk_.2) hs_) | (rw [show y262.length = y259.length from (Kd.R_reads' HO261.out).1.symm]; exact Kd.C_kept_own ((Kd.R_apart' HO261.out (Kd.R_typed HO255.out) (by decide))) (fun k_ hk_ hs_ => (hk_.2) hs_))); (case side7 => rw [show y262.length = y259.length from (Kd.R_reads' HO261.out).1.symm]; exact (Kd.R_reads' HO261.out).2.1); (case side8 => exact Kd.R_tight rfl HO255.out); rintro e w51 ⟨v271, rfl, ho0, hb, hkp⟩; refine ⟨_, rfl, ?_⟩; replace HO268 := mk_ (Kd.R_mono (ok' := fun k_ => (P4_ k_ ∨ w.heap.size ≤ k_) ∧ some k_ ≠ (.slice (some ⟨go25, 0, none⟩) y259.length co25 : Value).ownBlock) (Kd.R_keptB ((Kd.R_apart' HO268.out (Kd.R_typed HO255.out) (by decide))) hkp (fun k_ hk_ hs_ => (hk_.2) hs_)) (fun k_ hk_ => ⟨hk_.1.1.1, hk_.1.1.2⟩)); have HO272 := mk_ (Kd.R_mono (ok' := fun k_ => (P4_ k_ ∨ w.heap.size ≤ k_) ∧ some k_ ≠ (.slice Ao35 l4.length co35 : Value).ownBlock) ho0 (fun k_ hk_ => ⟨Or.elim hk_ (fun hs_ => (HO255.out.1 k_ (hs_).symm).1) (fun hn_ => (.inr (Nat.le_trans (kp_ HK.out).1 hn_))), Or.elim hk_ (fun hs_ => fun e_ => (((HO_4.out).1 k_ e_.symm).2) hs_) (fun hn_ => (Kd.fresh' (Kd.R_lt (Kd.R_below HO_4.out lt_)) k_ hn_))⟩)); replace HO_4 := mk_ (Kd.R_mono (ok' := fun k_ => (P4_ k_ ∨ w.heap.size ≤ k_) ∧ some k_ ≠ (v271 : Value).ownBlock) (Kd.R_keptB (HO_4.out) hkp (fun k_ hk_ hs_ => (hk_.2) hs_)) (fun k_ hk_ => ⟨hk_.1.1, fun e_ => Or.elim (ho0.1 k_ e_.symm) (fun hs_ => hk_.2.1 hs_) (fun hn_ => Nat.not_le.2 hk_.2.2 hn_)⟩)); replace HK := mk_ (Kept.then_ (S := (fun k_ => P4_ k_)) (kp_ HK.out) hkp (fun k_ hs_ => (fun e_ => (HO255.out.1 k_ e_.symm).1) hs_)); replace HB := mk_ (hb); (try clear HO261 HO255); (try clear hb); (try clear hkp); (try clear ho0); obtain ⟨Ao52, co52, eo52⟩ := Kd.R_slice HO272.out; subst eo52) | ((with_reducible refine gate_callee (f := 78) rfl ?_); refine goesL_ (some 97) rfl rfl Try.func78 (by kernel_rfl) rfl #[.int .i64 a0, .slice A1 l1.length c1, .slice A2 l2.length c2, .slice (some ⟨go28, 0, none⟩) y269.length co28, .slice Ao52 t270.length co52] rfl (by (try simp only [List.map_toArray, List.map_cons, List.map_nil]); first | done | (rw [show y269.length = y266.length from (Kd.R_reads' HO268.out).1.symm] <;> rfl) | rfl | (simp only [List.length_drop, List.length_take]; rfl)) ?_; (with_reducible refine (ih k2 (by have := HK1.out; have := HK2.out; omega) a0 _ _ l1 _ _ l2 _ _ y269 (fun k_ => some k_ = (.slice Ao52 t270.length co52 : Value).ownBlock) (.slice Ao52 t270.length co52) t270 t275 t278 t279 w0 _ ?side1 ?side2 ?side3 ?side4 ?side5 ?side6 ?side7 ?side8 A30.out).mono ?_); (case side1 => exact below_at HB.out); (case side2 => exact Kd.C_kept_call HR1.out (kp_ HK.out) (fun k_ hs_ => (fun e_ => (HO272.out.1 k_ e_.symm).1) hs_)); (case side3 => exact HC1.out); (case side4 => exact Kd.C_kept_call HR2.out (kp_ HK.out) (fun k_ hs_ => (fun e_ => (HO272.out.1 k_ e_.symm).1) hs_)); (case side5 => exact HC2.out); (case side6 => first | exact Kd.C_kept_own ((Kd.R_apart' HO268.out (Kd.R_typed HO272.out) (by decide))) (fun k_ hk_ hs_ => (hk_.2) hs_) | (rw [show y269.length = y266.length from (Kd.R_reads' HO268.out).1.symm]; exact Kd.C_kept_own ((Kd.R_apart' HO268.out (Kd.R_typed HO272.out) (by decide))) (fun k_ hk_ hs_ => (hk_.2) hs_))); (case side7 => rw [show y269.length = y266.length from (Kd.R_reads' HO268.out).1.symm]; exact (Kd.R_reads' HO268.out).2.1); (case side8 => exact Kd.R_tight rfl HO272.out); rintro e w53 ⟨v276, rfl, ho0, hb, hkp⟩; refine ⟨_, rfl, ?_⟩; have HO277 := mk_ (Kd.R_mono (ok' := fun k_ => (P4_ k_ ∨ w.heap.size ≤ k_) ∧ some k_ ≠ (.slice Ao35 l4.length co35 : Value).ownBlock) ho0 (fun k_ hk_ => ⟨Or.elim hk_ (fun hs_ => (HO272.out.1 k_ (hs_).symm).1) (fun hn_ => (.inr (Nat.le_trans (kp_ HK.out).1 hn_))), Or.elim hk_ (fun hs_ => fun e_ => (((HO_4.out).1 k_ e_.symm).2) hs_) (fun hn_ => (Kd.fresh' (Kd.R_lt (Kd.R_below HO_4.out lt_)) k_ hn_))⟩)); replace HK := mk_ (Kept.then_ (S := (fun k_ => P4_ k_)) (kp_ HK.out) hkp (fun k_ hs_ => (fun e_ => (HO272.out.1 k_ e_.symm).1) hs_)); replace HB := mk_ (hb); (try clear HO_4 HO261 HO268 HO272); (try clear hb); (try clear hkp); (try clear ho0); have p33 : 0 ≤ ((l4.length : Int) : Int) := oa_; have q33 : ((l4.length : Int) : Int) < ((t275.length : Int) : Int) := oa_; obtain ⟨go33, co33, eo33, gb33, gl33, cl33, HG33⟩ := Kd.R_form HO277.out (by omega); (first | cases eo33 | (injection eo33 with ea_ en_ ec_; (first | subst ea_ | (injection ea_ with ea_; subst ea_)); subst ec_; clear en_)); have GB33 := mk_ gb33; have GG33 := mk_ HG33; clear gb33 gl33 HG33; have HMgo33 := mk_ (show (P4_ go33 ∨ w.heap.size ≤ go33) from (HO277.out.1 _ rfl).1); obtain ⟨ce33, hcl33, hM33, hcc33, hfr33⟩ := Kd.R_elem HO277.out z93 ((l4.length : Int) : Int) p33 q33; obtain rfl := k93_openM hM33; have hx33_0 : w53.cell? ⟨go33, l4.length * 3, none⟩ = some (.int .i64 ((rd_T93 t275 (l4.length : Int)).f0)) := hcc33 0 _ rfl; have hx33_1 : w53.cell? ⟨go33, l4.length * 3 + 1, none⟩ = some (.int .i64 ((rd_T93 t275 (l4.length : Int)).f1)) := hcc33 1 _ rfl; have hx33_2 : w53.cell? ⟨go33, l4.length * 3 + 2, none⟩ = some (.int .i64 ((rd_T93 t275 (l4.length : Int)).f2)) := hcc33 2 _ rfl; have hf33_0 : w53.frozen? ⟨go33, l4.length * 3, none⟩ = false := hfr33 0; have hf33_1 : w53.frozen? ⟨go33, l4.length * 3 + 1, none⟩ = false := hfr33 1; have hf33_2 : w53.frozen? ⟨go33, l4.length * 3 + 2, none⟩ = false := hfr33 2; (try clear hM33); clear hcl33 hcc33 hfr33; replace p33 := eq_true p33; replace q33 := eq_true q33; have HX54 := mk_ (show Kd.R k93 93 w53 w0.heap.size (fun k_ => (P4_ k_ ∨ w.heap.size ≤ k_) ∧ some k_ ≠ (.slice Ao35 l4.length co35 : Value).ownBlock) (.slice (some ⟨go33, 0, none⟩) t275.length co33) t275 from (Kd.R_below HO277.out lt_)); obtain ⟨ce54, hcl54, hM54, hcc54, hfr54⟩ := Kd.R_elem HX54.out z93 ((l4.length : Int) : Int) (oa_) (by have h_ : ((l4.length : Int) : Int) < ((t275.length : Int) : Int) := oa_; first | exact h_ | (have e_ := (Kd.R_reads' HO277.out).1; omega) | simpa using h_); obtain rfl := k93_openM hM54; have HP54 := Kd.R_seg HX54.out ((l4.length : Int) : Int) (oa_) (by have h_ : ((l4.length : Int) : Int) < ((t275.length : Int) : Int) := oa_; first | exact h_ | (have e_ := (Kd.R_reads' HO277.out).1; omega) | simpa using h_) (seg := [.int .i64 x13_2, .int .i64 t273, .int .i64 t278]) (j := 0) hcl54 hcc54 (show 3 ≤ 3 from by decide) (x' := (⟨x13_2, t273, t278⟩ : S93)) (k93_mkM _ _ _ (⟨x13_2, t273, t278⟩ : S93) ) (fun _ hk => hk); have hx54_0 := hcc54 0 _ rfl; (try simp only [show (k93).sz = 3 from rfl, Nat.mul_one, Nat.add_zero, Int.toNat_natCast] at hx54_0); have hf54_0 := hfr54 0; (try simp only [show (k93).sz = 3 from rfl, Nat.mul_one, Nat.add_zero, Int.toNat_natCast] at hf54_0); have hx54_1 := hcc54 1 _ rfl; (try simp only [show (k93).sz = 3 from rfl, Nat.mul_one, Nat.add_zero, Int.toNat_natCast] at hx54_1); have hf54_1 := hfr54 1; (try simp only [show (k93).sz = 3 from rfl, Nat.mul_one, Nat.add_zero, Int.toNat_natCast] at hf54_1); have hx54_2 := hcc54 2 _ rfl; (try simp only [show (k93).sz = 3 from rfl, Nat.mul_one, Nat.add_zero, Int.toNat_natCast] at hx54_2); have hf54_2 := hfr54 2; (try simp only [show (k93).sz = 3 from rfl, Nat.mul_one, Nat.add_zero, Int.toNat_natCast] at hf54_2); (try clear hM54); clear hcl54 hcc54 hfr54) | ((with_reducible refine gate_store (t := 93) (p := 107) rfl ?_); refine store_event (t := 93) (p := 107) (v := ?vo_w55) (w1 := (((w53.setCell ⟨go33, l4.length * 3, none⟩ (.int .i64 x13_2)).setCell ⟨go33, l4.length * 3 + 1, none⟩ (.int .i64 t273)).setCell ⟨go33, l4.length * 3 + 2, none⟩ (.int .i64 t278))) ?hg ?ho ?hn ?hr ?_; (case ho => rfl); (case hg => rfl); (case hn => rfl); (case hr => first | (go_simp; done) | (go_simp; rfl)); intro w55 hw; have hg : w53.grownBy w55 (some go33) := (by rw [hw]; exact HP54.2); have hp_ : Kd.R k93 93 w55 w0.heap.size (fun k_ => (P4_ k_ ∨ w.heap.size ≤ k_) ∧ some k_ ≠ (.slice Ao35 l4.length co35 : Value).ownBlock) (.slice (some ⟨go33, 0, none⟩) t275.length co33) y280 := (by rw [hw, Ny280.out]; exact HP54.1); clear HP54; replace HB := mk_ ((by rw [hw]; exact below_set (below_set (below_set (HB.out) GB33.out) GB33.out) GB33.out : Below w0.heap.size w0 w55)); replace HK := mk_ (Kept.of_grown (S := (fun k_ => P4_ k_)) hg (kp_ HK.out) (fun k_ e_ => (HO277.out.1 k_ e_).1)); replace HO277 := mk_ (hp_); (try clear HO_4 HO261 HO268); clear hg hw hp_))
    go_ret3
    exact ⟨_, er_, by (with_reducible repeat (first | apply Kd.R_alloc | apply Kd.R_drewN | apply Kd.R_drew)); exact Kd.R_mono HO277.out (fun _ hk => hk.1), below_at HB.out, kp_ HK.out⟩
   replace c34 := Bool.eq_false_iff.mpr c34
   subst c34
   rw [if_neg Bool.false_ne_true] at H
   simp only [Option.some.injEq, Prod.mk.injEq] at H
   obtain ⟨rfl, rfl, rfl⟩ := H
   obtain ⟨Ao56, co56, eo56⟩ := Kd.R_slice HO_4.out
   subst eo56
   go_wp2_with (first | ((with_reducible refine gate_dst (N := 62) rfl ?_); refine Kd.R_lit k93 _ 93 ?hg (N := 62) ?hd (xs := ([] : List (S93))) (inner := []) (ok := fun _ => True) (okp := fun _ => True) ?hr ?hp (fun _ hk => hk) trivial (Below.refl _ _) (Nat.le_refl _) (by simp) ?_; (case hd => rfl); (case hg => rfl); (case hr => first | (go_simp; done) | (go_simp; rfl)); (case hp => exact (Reps.none _ _)); intro v248 w57 ho58 hb hg_ hnew_; clear hg_ hnew_; (first | rw [← Ny247.out] at ho58 | (simp only [Int.reduceToNat] at ho58; rw [← Ny247.out] at ho58)); have HO249 := mk_ (Kd.R_lower (Kd.R_new' (Kd.R_newM (M := fun k_ => (P4_ k_ ∨ w.heap.size ≤ k_)) ho58 (kp_ HK.out).1 (fun k_ h_ => .inr h_)) (Kd.R_lt (Kd.R_below HO_4.out lt_))) (below_size (below_at HB.out))); replace HO_4 := mk_ (Kd.R_elder' (Kd.R_below HO_4.out lt_) (Kd.R_base ho58) hb); replace HK := mk_ (Kept.below (S := (fun k_ => P4_ k_)) (kp_ HK.out) hb); replace HB := mk_ (below_step (below_at HB.out) hb); clear hb ho58) | ((with_reducible refine gate_builtin (b := .append) (xs := #[.tmp 62, .tmp 63]) rfl ?_); at_builtin; refine Kd.R_append_rows k93 (w0 := w0) w0.heap.size rfl (.tmp 62) (.tmp 63) 49 93 (.agg #[(.int .i64 0), (.int .i64 0), (.int .i64 0)]) 24 rfl Try.underlying49 info93 rfl (by decide) (by omega) v248 y247 l4 _ _ _ (fun k_ => (P4_ k_ ∨ w.heap.size ≤ k_) ∧ some k_ ≠ (.slice Ao56 l4.length co56 : Value).ownBlock) (fun _ => False) rfl rfl ?aO ?aR (fun _ _ h => h) (fun _ h => h.elim) ?aF ?aB ?aS ?aL ?_; (case aR => exact Kd.C_below (Kd.R_reads' HO_4.out).2.2 lt_); (case aB => exact (below_at HB.out)); (case aF => exact (fun k_ hk => ⟨(.inr (Nat.le_trans (kp_ HK.out).1 hk)), Kd.fresh' (Kd.R_lt (Kd.R_below HO_4.out lt_)) k_ hk⟩)); (case aO => exact (Kd.R_below (Kd.R_mono HO249.out (fun _ hk => ⟨hk.1.1, hk.2⟩)) lt_)); (case aS => exact (below_size (below_at HB.out))); (case aL => have := LMc20.out; omega); intro v251 w59 ho hb hg hat; rw [← Ny250.out] at ho; replace HO_4 := mk_ (Kd.R_after (ok := (fun k_ => (P4_ k_ ∨ w.heap.size ≤ k_))) (Kd.R_below HO_4.out lt_) hg hat); replace HB := mk_ (hb); replace HK := mk_ (Kept.of_grown (S := (fun k_ => P4_ k_)) hg (kp_ HK.out) (fun k_ e_ => (HO249.out.1 k_ e_).1.1)); have HO252 := mk_ (ho); (try clear HO249); clear ho hb hg hat) | ((with_reducible refine gate_builtin (b := .append) (xs := #[.tmp 64, .tmp 67]) rfl ?_); at_builtin; refine Kd.R_append k93 (w0 := w0) w0.heap.size rfl (.tmp 64) (.tmp 67) 49 93 (.agg #[(.int .i64 0), (.int .i64 0), (.int .i64 0)]) 24 rfl Try.underlying49 info93 rfl (by decide) (by omega) v251 y250 (⟨x13_2, (-1), (-1)⟩ : S93) [.int .i64 x13_2, .int .i64 (-1), .int .i64 (-1)] (fun k_ => (P4_ k_ ∨ w.heap.size ≤ k_) ∧ some k_ ≠ (.slice Ao56 l4.length co56 : Value).ownBlock) (fun _ => False) rfl rfl ?aP (fun _ hk => hk.elim) ?aF ?aO ?aB ?aS ?aL ?_; (case aP => exact k93_mkM _ _ _ (⟨x13_2, (-1), (-1)⟩ : S93)); (case aB => exact (below_at HB.out)); (case aF => exact (fun k_ hk => ⟨(.inr (Nat.le_trans (kp_ HK.out).1 hk)), Kd.fresh' (Kd.R_lt (Kd.R_below HO_4.out lt_)) k_ hk⟩)); (case aO => exact (Kd.R_below HO252.out lt_)); (case aS => exact (below_size (below_at HB.out))); (case aL => have := LMc21.out; omega); intro v254 w60 ho hb hg hat; rw [← Ny253.out] at ho; replace HO_4 := mk_ (Kd.R_after (ok := (fun k_ => (P4_ k_ ∨ w.heap.size ≤ k_))) (Kd.R_below HO_4.out lt_) hg hat); replace HB := mk_ (hb); replace HK := mk_ (Kept.of_grown (S := (fun k_ => P4_ k_)) hg (kp_ HK.out) (fun k_ e_ => (HO252.out.1 k_ e_).1)); have HO255 := mk_ (ho); (try clear HO252); clear ho hb hg hat) | ((with_reducible refine gate_dst (N := 69) rfl ?_); refine Kd.R_lit (Kd.int .i64) _ 3 ?hg (N := 69) ?hd (xs := ([] : List Int)) (inner := []) (ok := fun _ => True) (okp := fun _ => True) ?hr ?hp (fun _ hk => hk) trivial (Below.refl _ _) (Nat.le_refl _) (by simp) ?_; (case hd => rfl); (case hg => rfl); (case hr => first | (go_simp; done) | (go_simp; rfl)); (case hp => exact (Reps.none _ _)); intro v257 w61 ho62 hb hg_ hnew_; clear hg_ hnew_; (first | rw [← Ny256.out] at ho62 | (simp only [Int.reduceToNat] at ho62; rw [← Ny256.out] at ho62)); replace HO_4 := mk_ (Kd.R_below (Kd.R_below HO_4.out lt_) hb); replace HO255 := mk_ (Kd.R_below (Kd.R_below HO255.out lt_) hb); have HO258 := mk_ (Kd.R_lower (Kd.R_newM (M := fun k_ => (P4_ k_ ∨ w.heap.size ≤ k_)) ho62 (kp_ HK.out).1 (fun k_ h_ => .inr h_)) (below_size (below_at HB.out))); replace HK := mk_ (Kept.below (S := (fun k_ => P4_ k_)) (kp_ HK.out) hb); replace HB := mk_ (below_step (below_at HB.out) hb); clear hb ho62) | ((with_reducible refine gate_builtin (b := .append) (xs := #[.tmp 69, .tmp 70]) rfl ?_); at_builtin; refine Kd.R_append_rows (Kd.int .i64) (w0 := w0) w0.heap.size rfl (.tmp 69) (.tmp 70) 42 3 (.int .i64 0) 8 rfl Try.underlying42 info3 rfl (by decide) (by omega) v257 y256 l3 _ _ _ (fun k_ => (P4_ k_ ∨ w.heap.size ≤ k_)) (fun _ => False) rfl rfl ?aO ?aR (fun _ _ h => h) (fun _ h => h.elim) ?aF ?aB ?aS ?aL ?_; (case aR => exact Kd.C_kept_now HR3.out (kp_ HK.out)); (case aB => exact (below_at HB.out)); (case aF => exact (fun k_ hk => (.inr (Nat.le_trans (kp_ HK.out).1 hk)))); (case aO => exact (Kd.R_below (Kd.R_mono HO258.out (fun _ hk => hk.1)) lt_)); (case aS => exact (below_size (below_at HB.out))); (case aL => have := LMc22.out; omega); intro v260 w63 ho hb hg hat; rw [← Ny259.out] at ho; replace HO_4 := mk_ (Kd.R_over' (Kd.R_below HO_4.out lt_) (Kd.R_typed (Kd.R_below HO258.out lt_)) (by decide) hg); replace HO255 := mk_ (Kd.R_over' (Kd.R_below HO255.out lt_) (Kd.R_typed (Kd.R_below HO258.out lt_)) (by decide) hg); replace HB := mk_ (hb); replace HK := mk_ (Kept.of_grown (S := (fun k_ => P4_ k_)) hg (kp_ HK.out) (fun k_ e_ => (HO258.out.1 k_ e_).1)); have HO261 := mk_ (ho); (try clear HO258); clear ho hb hg hat; have p25 : 0 ≤ (x13_2 : Int) := oa_; have q25 : (x13_2 : Int) < ((y259.length : Int) : Int) := oa_; obtain ⟨go25, co25, eo25, gb25, gl25, cl25, HG25⟩ := Kd.R_form HO261.out (by omega); (first | cases eo25 | (injection eo25 with ea_ en_ ec_; (first | subst ea_ | (injection ea_ with ea_; subst ea_)); subst ec_; clear en_)); have GB25 := mk_ gb25; have GG25 := mk_ HG25; clear gb25 gl25 HG25; have HMgo25 := mk_ (show (P4_ go25 ∨ w.heap.size ≤ go25) from (HO261.out.1 _ rfl)); obtain ⟨hx25_0, hf25_0⟩ := Kd.R_celln 0 HO261.out (x13_2 : Int) p25 q25; replace p25 := eq_true p25; replace q25 := eq_true q25; obtain ⟨hy64_, hz64_⟩ := Kd.R_celln 0 HO261.out (x13_2 : Int) (oa_) (oa_); have HP64 := Kd.R_putg HO261.out (x13_2 : Int) 0) | ((with_reducible refine gate_store (t := 3) (p := 74) rfl ?_); refine store_event (t := 3) (p := 74) (v := ?vo_w65) (w1 := (w63.setCell ⟨go25, (x13_2 : Int).toNat, none⟩ (.int .i64 0))) ?hg ?ho ?hn ?hr ?_; (case ho => rfl); (case hg => rfl); (case hn => rfl); (case hr => first | (go_simp; done) | (go_simp; rfl)); intro w65 hw; have hg : w63.grownBy w65 (some go25) := (by rw [hw]; exact HP64.2); have hp_ : Kd.R (Kd.int .i64) 3 w65 w0.heap.size (fun k_ => (P4_ k_ ∨ w.heap.size ≤ k_)) (.slice (some ⟨go25, 0, none⟩) y259.length co25) y262 := (by rw [hw, Ny262.out]; exact HP64.1); clear HP64; replace HO_4 := mk_ (Kd.R_over' (v := (.slice (some ⟨go25, 0, none⟩) y259.length co25)) (Kd.R_below HO_4.out lt_) (Kd.R_typed HO261.out) (by decide) hg); replace HO255 := mk_ (Kd.R_over' (v := (.slice (some ⟨go25, 0, none⟩) y259.length co25)) (Kd.R_below HO255.out lt_) (Kd.R_typed HO261.out) (by decide) hg); replace HB := mk_ ((by rw [hw]; exact below_set (HB.out) GB25.out : Below w0.heap.size w0 w65)); replace HK := mk_ (Kept.of_grown (S := (fun k_ => P4_ k_)) hg (kp_ HK.out) (fun k_ e_ => (HO261.out.1 k_ e_))); replace HO261 := mk_ (hp_); clear hg hw hp_) | ((with_reducible refine gate_dst (N := 75) rfl ?_); refine Kd.R_lit (Kd.int .i64) _ 3 ?hg (N := 75) ?hd (xs := ([] : List Int)) (inner := []) (ok := fun _ => True) (okp := fun _ => True) ?hr ?hp (fun _ hk => hk) trivial (Below.refl _ _) (Nat.le_refl _) (by simp) ?_; (case hd => rfl); (case hg => rfl); (case hr => first | (go_simp; done) | (go_simp; rfl)); (case hp => exact (Reps.none _ _)); intro v264 w66 ho67 hb hg_ hnew_; clear hg_ hnew_; (first | rw [← Ny263.out] at ho67 | (simp only [Int.reduceToNat] at ho67; rw [← Ny263.out] at ho67)); replace HO_4 := mk_ (Kd.R_below (Kd.R_below HO_4.out lt_) hb); replace HO255 := mk_ (Kd.R_below (Kd.R_below HO255.out lt_) hb); have HO265 := mk_ (Kd.R_lower (Kd.R_new' (Kd.R_newM (M := fun k_ => (P4_ k_ ∨ w.heap.size ≤ k_)) ho67 (kp_ HK.out).1 (fun k_ h_ => .inr h_)) (Kd.R_lt (Kd.R_below HO261.out lt_))) (below_size (below_at HB.out))); replace HO261 := mk_ (Kd.R_elder' (Kd.R_below HO261.out lt_) (Kd.R_base ho67) hb); replace HK := mk_ (Kept.below (S := (fun k_ => P4_ k_)) (kp_ HK.out) hb); replace HB := mk_ (below_step (below_at HB.out) hb); clear hb ho67) | ((with_reducible refine gate_builtin (b := .append) (xs := #[.tmp 75, .tmp 76]) rfl ?_); at_builtin; refine Kd.R_append_rows (Kd.int .i64) (w0 := w0) w0.heap.size rfl (.tmp 75) (.tmp 76) 42 3 (.int .i64 0) 8 rfl Try.underlying42 info3 rfl (by decide) (by omega) v264 y263 l3 _ _ _ (fun k_ => (P4_ k_ ∨ w.heap.size ≤ k_) ∧ some k_ ≠ (.slice (some ⟨go25, 0, none⟩) y259.length co25 : Value).ownBlock) (fun _ => False) rfl rfl ?aO ?aR (fun _ _ h => h) (fun _ h => h.elim) ?aF ?aB ?aS ?aL ?_; (case aR => exact Kd.C_kept_now HR3.out (kp_ HK.out)); (case aB => exact (below_at HB.out)); (case aF => exact (fun k_ hk => ⟨(.inr (Nat.le_trans (kp_ HK.out).1 hk)), Kd.fresh' (Kd.R_lt (Kd.R_below HO261.out lt_)) k_ hk⟩)); (case aO => exact (Kd.R_below (Kd.R_mono HO265.out (fun _ hk => ⟨hk.1.1, hk.2⟩)) lt_)); (case aS => exact (below_size (below_at HB.out))); (case aL => have := LMc26.out; omega); intro v267 w68 ho hb hg hat; rw [← Ny266.out] at ho; replace HO_4 := mk_ (Kd.R_over' (Kd.R_below HO_4.out lt_) (Kd.R_typed (Kd.R_below HO265.out lt_)) (by decide) hg); replace HO255 := mk_ (Kd.R_over' (Kd.R_below HO255.out lt_) (Kd.R_typed (Kd.R_below HO265.out lt_)) (by decide) hg); replace HO261 := mk_ (Kd.R_after (ok := (fun k_ => (P4_ k_ ∨ w.heap.size ≤ k_))) (Kd.R_below HO261.out lt_) hg hat); replace HB := mk_ (hb); replace HK := mk_ (Kept.of_grown (S := (fun k_ => P4_ k_)) hg (kp_ HK.out) (fun k_ e_ => (HO265.out.1 k_ e_).1.1)); have HO268 := mk_ (ho); (try clear HO265); clear ho hb hg hat; have p28 : 0 ≤ (x13_2 : Int) := oa_; have q28 : (x13_2 : Int) < ((y266.length : Int) : Int) := oa_; obtain ⟨go28, co28, eo28, gb28, gl28, cl28, HG28⟩ := Kd.R_form HO268.out (by omega); (first | cases eo28 | (injection eo28 with ea_ en_ ec_; (first | subst ea_ | (injection ea_ with ea_; subst ea_)); subst ec_; clear en_)); have GB28 := mk_ gb28; have GG28 := mk_ HG28; clear gb28 gl28 HG28; have HMgo28 := mk_ (show (P4_ go28 ∨ w.heap.size ≤ go28) from (HO268.out.1 _ rfl).1); obtain ⟨hx28_0, hf28_0⟩ := Kd.R_celln 0 HO268.out (x13_2 : Int) p28 q28; replace p28 := eq_true p28; replace q28 := eq_true q28; obtain ⟨hy69_, hz69_⟩ := Kd.R_celln 0 HO268.out (x13_2 : Int) (oa_) (oa_); have HP69 := Kd.R_putg HO268.out (x13_2 : Int) 1) | ((with_reducible refine gate_store (t := 3) (p := 80) rfl ?_); refine store_event (t := 3) (p := 80) (v := ?vo_w70) (w1 := (w68.setCell ⟨go28, (x13_2 : Int).toNat, none⟩ (.int .i64 1))) ?hg ?ho ?hn ?hr ?_; (case ho => rfl); (case hg => rfl); (case hn => rfl); (case hr => first | (go_simp; done) | (go_simp; rfl)); intro w70 hw; have hg : w68.grownBy w70 (some go28) := (by rw [hw]; exact HP69.2); have hp_ : Kd.R (Kd.int .i64) 3 w70 w0.heap.size (fun k_ => (P4_ k_ ∨ w.heap.size ≤ k_) ∧ some k_ ≠ (.slice (some ⟨go25, 0, none⟩) y259.length co25 : Value).ownBlock) (.slice (some ⟨go28, 0, none⟩) y266.length co28) y269 := (by rw [hw, Ny269.out]; exact HP69.1); clear HP69; replace HO_4 := mk_ (Kd.R_over' (v := (.slice (some ⟨go28, 0, none⟩) y266.length co28)) (Kd.R_below HO_4.out lt_) (Kd.R_typed HO268.out) (by decide) hg); replace HO255 := mk_ (Kd.R_over' (v := (.slice (some ⟨go28, 0, none⟩) y266.length co28)) (Kd.R_below HO255.out lt_) (Kd.R_typed HO268.out) (by decide) hg); replace HO261 := mk_ (Kd.R_after (v := (.slice (some ⟨go28, 0, none⟩) y266.length co28)) (v1 := (.slice (some ⟨go28, 0, none⟩) y266.length co28)) (ok := (fun k_ => (P4_ k_ ∨ w.heap.size ≤ k_))) (Kd.R_below HO261.out lt_) hg (.inl rfl)); replace HB := mk_ ((by rw [hw]; exact below_set (HB.out) GB28.out : Below w0.heap.size w0 w70)); replace HK := mk_ (Kept.of_grown (S := (fun k_ => P4_ k_)) hg (kp_ HK.out) (fun k_ e_ => (HO268.out.1 k_ e_).1)); replace HO268 := mk_ (hp_); clear hg hw hp_; obtain ⟨Ao71, co71, eo71⟩ := Kd.R_slice HO255.out; subst eo71) | ((with_reducible refine gate_callee (f := 78) rfl ?_); refine goesL_ (some 87) rfl rfl Try.func78 (by kernel_rfl) rfl #[.int .i64 a0, .slice A1 l1.length c1, .slice A2 l2.length c2, .slice (some ⟨go25, 0, none⟩) y262.length co25, .slice Ao71 y253.length co71] rfl (by (try simp only [List.map_toArray, List.map_cons, List.map_nil]); first | done | (rw [show y262.length = y259.length from (Kd.R_reads' HO261.out).1.symm] <;> rfl) | rfl | (simp only [List.length_drop, List.length_take]; rfl)) ?_; (with_reducible refine (ih k2 (by have := HK1.out; have := HK2.out; omega) a0 _ _ l1 _ _ l2 _ _ y262 (fun k_ => some k_ = (.slice Ao71 y253.length co71 : Value).ownBlock) (.slice Ao71 y253.length co71) y253 t270 t273 false w0 _ ?side1 ?side2 ?side3 ?side4 ?side5 ?side6 ?side7 ?side8 A29.out).mono ?_); (case side1 => exact below_at HB.out); (case side2 => exact Kd.C_kept_call HR1.out (kp_ HK.out) (fun k_ hs_ => (fun e_ => (HO255.out.1 k_ e_.symm).1) hs_)); (case side3 => exact HC1.out); (case side4 => exact Kd.C_kept_call HR2.out (kp_ HK.out) (fun k_ hs_ => (fun e_ => (HO255.out.1 k_ e_.symm).1) hs_)); (case side5 => exact HC2.out); (case side6 => first | exact Kd.C_kept_own ((Kd.R_apart' HO261.out (Kd.R_typed HO255.out) (by decide))) (fun k_ hk_ hs_ => (hk_.2) hs_) | (rw [show y262.length = y259.length from (Kd.R_reads' HO261.out).1.symm]; exact Kd.C_kept_own ((Kd.R_apart' HO261.out (Kd.R_typed HO255.out) (by decide))) (fun k_ hk_ hs_ => (hk_.2) hs_))); (case side7 => rw [show y262.length = y259.length from (Kd.R_reads' HO261.out).1.symm]; exact (Kd.R_reads' HO261.out).2.1); (case side8 => exact Kd.R_tight rfl HO255.out); rintro e w72 ⟨v271, rfl, ho0, hb, hkp⟩; refine ⟨_, rfl, ?_⟩; replace HO268 := mk_ (Kd.R_mono (ok' := fun k_ => (P4_ k_ ∨ w.heap.size ≤ k_) ∧ some k_ ≠ (.slice (some ⟨go25, 0, none⟩) y259.length co25 : Value).ownBlock) (Kd.R_keptB ((Kd.R_apart' HO268.out (Kd.R_typed HO255.out) (by decide))) hkp (fun k_ hk_ hs_ => (hk_.2) hs_)) (fun k_ hk_ => ⟨hk_.1.1.1, hk_.1.1.2⟩)); have HO272 := mk_ (Kd.R_mono (ok' := fun k_ => (P4_ k_ ∨ w.heap.size ≤ k_) ∧ some k_ ≠ (.slice Ao56 l4.length co56 : Value).ownBlock) ho0 (fun k_ hk_ => ⟨Or.elim hk_ (fun hs_ => (HO255.out.1 k_ (hs_).symm).1) (fun hn_ => (.inr (Nat.le_trans (kp_ HK.out).1 hn_))), Or.elim hk_ (fun hs_ => fun e_ => (((HO_4.out).1 k_ e_.symm).2) hs_) (fun hn_ => (Kd.fresh' (Kd.R_lt (Kd.R_below HO_4.out lt_)) k_ hn_))⟩)); replace HO_4 := mk_ (Kd.R_mono (ok' := fun k_ => (P4_ k_ ∨ w.heap.size ≤ k_) ∧ some k_ ≠ (v271 : Value).ownBlock) (Kd.R_keptB (HO_4.out) hkp (fun k_ hk_ hs_ => (hk_.2) hs_)) (fun k_ hk_ => ⟨hk_.1.1, fun e_ => Or.elim (ho0.1 k_ e_.symm) (fun hs_ => hk_.2.1 hs_) (fun hn_ => Nat.not_le.2 hk_.2.2 hn_)⟩)); replace HK := mk_ (Kept.then_ (S := (fun k_ => P4_ k_)) (kp_ HK.out) hkp (fun k_ hs_ => (fun e_ => (HO255.out.1 k_ e_.symm).1) hs_)); replace HB := mk_ (hb); (try clear HO261 HO255); (try clear hb); (try clear hkp); (try clear ho0); obtain ⟨Ao73, co73, eo73⟩ := Kd.R_slice HO272.out; subst eo73) | ((with_reducible refine gate_callee (f := 78) rfl ?_); refine goesL_ (some 97) rfl rfl Try.func78 (by kernel_rfl) rfl #[.int .i64 a0, .slice A1 l1.length c1, .slice A2 l2.length c2, .slice (some ⟨go28, 0, none⟩) y269.length co28, .slice Ao73 t270.length co73] rfl (by (try simp only [List.map_toArray, List.map_cons, List.map_nil]); first | done | (rw [show y269.length = y266.length from (Kd.R_reads' HO268.out).1.symm] <;> rfl) | rfl | (simp only [List.length_drop, List.length_take]; rfl)) ?_; (with_reducible refine (ih k2 (by have := HK1.out; have := HK2.out; omega) a0 _ _ l1 _ _ l2 _ _ y269 (fun k_ => some k_ = (.slice Ao73 t270.length co73 : Value).ownBlock) (.slice Ao73 t270.length co73) t270 t275 t278 t279 w0 _ ?side1 ?side2 ?side3 ?side4 ?side5 ?side6 ?side7 ?side8 A30.out).mono ?_); (case side1 => exact below_at HB.out); (case side2 => exact Kd.C_kept_call HR1.out (kp_ HK.out) (fun k_ hs_ => (fun e_ => (HO272.out.1 k_ e_.symm).1) hs_)); (case side3 => exact HC1.out); (case side4 => exact Kd.C_kept_call HR2.out (kp_ HK.out) (fun k_ hs_ => (fun e_ => (HO272.out.1 k_ e_.symm).1) hs_)); (case side5 => exact HC2.out); (case side6 => first | exact Kd.C_kept_own ((Kd.R_apart' HO268.out (Kd.R_typed HO272.out) (by decide))) (fun k_ hk_ hs_ => (hk_.2) hs_) | (rw [show y269.length = y266.length from (Kd.R_reads' HO268.out).1.symm]; exact Kd.C_kept_own ((Kd.R_apart' HO268.out (Kd.R_typed HO272.out) (by decide))) (fun k_ hk_ hs_ => (hk_.2) hs_))); (case side7 => rw [show y269.length = y266.length from (Kd.R_reads' HO268.out).1.symm]; exact (Kd.R_reads' HO268.out).2.1); (case side8 => exact Kd.R_tight rfl HO272.out); rintro e w74 ⟨v276, rfl, ho0, hb, hkp⟩; refine ⟨_, rfl, ?_⟩; have HO277 := mk_ (Kd.R_mono (ok' := fun k_ => (P4_ k_ ∨ w.heap.size ≤ k_) ∧ some k_ ≠ (.slice Ao56 l4.length co56 : Value).ownBlock) ho0 (fun k_ hk_ => ⟨Or.elim hk_ (fun hs_ => (HO272.out.1 k_ (hs_).symm).1) (fun hn_ => (.inr (Nat.le_trans (kp_ HK.out).1 hn_))), Or.elim hk_ (fun hs_ => fun e_ => (((HO_4.out).1 k_ e_.symm).2) hs_) (fun hn_ => (Kd.fresh' (Kd.R_lt (Kd.R_below HO_4.out lt_)) k_ hn_))⟩)); replace HK := mk_ (Kept.then_ (S := (fun k_ => P4_ k_)) (kp_ HK.out) hkp (fun k_ hs_ => (fun e_ => (HO272.out.1 k_ e_.symm).1) hs_)); replace HB := mk_ (hb); (try clear HO_4 HO261 HO268 HO272); (try clear hb); (try clear hkp); (try clear ho0); have p33 : 0 ≤ ((l4.length : Int) : Int) := oa_; have q33 : ((l4.length : Int) : Int) < ((t275.length : Int) : Int) := oa_; obtain ⟨go33, co33, eo33, gb33, gl33, cl33, HG33⟩ := Kd.R_form HO277.out (by omega); (first | cases eo33 | (injection eo33 with ea_ en_ ec_; (first | subst ea_ | (injection ea_ with ea_; subst ea_)); subst ec_; clear en_)); have GB33 := mk_ gb33; have GG33 := mk_ HG33; clear gb33 gl33 HG33; have HMgo33 := mk_ (show (P4_ go33 ∨ w.heap.size ≤ go33) from (HO277.out.1 _ rfl).1); obtain ⟨ce33, hcl33, hM33, hcc33, hfr33⟩ := Kd.R_elem HO277.out z93 ((l4.length : Int) : Int) p33 q33; obtain rfl := k93_openM hM33; have hx33_0 : w74.cell? ⟨go33, l4.length * 3, none⟩ = some (.int .i64 ((rd_T93 t275 (l4.length : Int)).f0)) := hcc33 0 _ rfl; have hx33_1 : w74.cell? ⟨go33, l4.length * 3 + 1, none⟩ = some (.int .i64 ((rd_T93 t275 (l4.length : Int)).f1)) := hcc33 1 _ rfl; have hx33_2 : w74.cell? ⟨go33, l4.length * 3 + 2, none⟩ = some (.int .i64 ((rd_T93 t275 (l4.length : Int)).f2)) := hcc33 2 _ rfl; have hf33_0 : w74.frozen? ⟨go33, l4.length * 3, none⟩ = false := hfr33 0; have hf33_1 : w74.frozen? ⟨go33, l4.length * 3 + 1, none⟩ = false := hfr33 1; have hf33_2 : w74.frozen? ⟨go33, l4.length * 3 + 2, none⟩ = false := hfr33 2; (try clear hM33); clear hcl33 hcc33 hfr33; replace p33 := eq_true p33; replace q33 := eq_true q33; have HX75 := mk_ (show Kd.R k93 93 w74 w0.heap.size (fun k_ => (P4_ k_ ∨ w.heap.size ≤ k_) ∧ some k_ ≠ (.slice Ao56 l4.length co56 : Value).ownBlock) (.slice (some ⟨go33, 0, none⟩) t275.length co33) t275 from (Kd.R_below HO277.out lt_)); obtain ⟨ce75, hcl75, hM75, hcc75, hfr75⟩ := Kd.R_elem HX75.out z93 ((l4.length : Int) : Int) (oa_) (by have h_ : ((l4.length : Int) : Int) < ((t275.length : Int) : Int) := oa_; first | exact h_ | (have e_ := (Kd.R_reads' HO277.out).1; omega) | simpa using h_); obtain rfl := k93_openM hM75; have HP75 := Kd.R_seg HX75.out ((l4.length : Int) : Int) (oa_) (by have h_ : ((l4.length : Int) : Int) < ((t275.length : Int) : Int) := oa_; first | exact h_ | (have e_ := (Kd.R_reads' HO277.out).1; omega) | simpa using h_) (seg := [.int .i64 x13_2, .int .i64 t273, .int .i64 t278]) (j := 0) hcl75 hcc75 (show 3 ≤ 3 from by decide) (x' := (⟨x13_2, t273, t278⟩ : S93)) (k93_mkM _ _ _ (⟨x13_2, t273, t278⟩ : S93) ) (fun _ hk => hk); have hx75_0 := hcc75 0 _ rfl; (try simp only [show (k93).sz = 3 from rfl, Nat.mul_one, Nat.add_zero, Int.toNat_natCast] at hx75_0); have hf75_0 := hfr75 0; (try simp only [show (k93).sz = 3 from rfl, Nat.mul_one, Nat.add_zero, Int.toNat_natCast] at hf75_0); have hx75_1 := hcc75 1 _ rfl; (try simp only [show (k93).sz = 3 from rfl, Nat.mul_one, Nat.add_zero, Int.toNat_natCast] at hx75_1); have hf75_1 := hfr75 1; (try simp only [show (k93).sz = 3 from rfl, Nat.mul_one, Nat.add_zero, Int.toNat_natCast] at hf75_1); have hx75_2 := hcc75 2 _ rfl; (try simp only [show (k93).sz = 3 from rfl, Nat.mul_one, Nat.add_zero, Int.toNat_natCast] at hx75_2); have hf75_2 := hfr75 2; (try simp only [show (k93).sz = 3 from rfl, Nat.mul_one, Nat.add_zero, Int.toNat_natCast] at hf75_2); (try clear hM75); clear hcl75 hcc75 hfr75) | ((with_reducible refine gate_store (t := 93) (p := 107) rfl ?_); refine store_event (t := 93) (p := 107) (v := ?vo_w76) (w1 := (((w74.setCell ⟨go33, l4.length * 3, none⟩ (.int .i64 x13_2)).setCell ⟨go33, l4.length * 3 + 1, none⟩ (.int .i64 t273)).setCell ⟨go33, l4.length * 3 + 2, none⟩ (.int .i64 t278))) ?hg ?ho ?hn ?hr ?_; (case ho => rfl); (case hg => rfl); (case hn => rfl); (case hr => first | (go_simp; done) | (go_simp; rfl)); intro w76 hw; have hg : w74.grownBy w76 (some go33) := (by rw [hw]; exact HP75.2); have hp_ : Kd.R k93 93 w76 w0.heap.size (fun k_ => (P4_ k_ ∨ w.heap.size ≤ k_) ∧ some k_ ≠ (.slice Ao56 l4.length co56 : Value).ownBlock) (.slice (some ⟨go33, 0, none⟩) t275.length co33) y280 := (by rw [hw, Ny280.out]; exact HP75.1); clear HP75; replace HB := mk_ ((by rw [hw]; exact below_set (below_set (below_set (HB.out) GB33.out) GB33.out) GB33.out : Below w0.heap.size w0 w76)); replace HK := mk_ (Kept.of_grown (S := (fun k_ => P4_ k_)) hg (kp_ HK.out) (fun k_ e_ => (HO277.out.1 k_ e_).1)); replace HO277 := mk_ (hp_); (try clear HO_4 HO261 HO268); clear hg hw hp_))
   go_ret3
   exact ⟨_, er_, by (with_reducible repeat (first | apply Kd.R_alloc | apply Kd.R_drewN | apply Kd.R_drew)); exact Kd.R_mono HO277.out (fun _ hk => hk.1), below_at HB.out, kp_ HK.out⟩
end Go.Proofs.Ytcaogllnbpmcgaa.P

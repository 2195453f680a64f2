/- Written by our program myprint.py out of Lean's print of the translation: Go's function comes to just the answer of the Lean function told here. -/
import Derived.Test.YtbhmippoeimliaaPx0
import Derived.Test.YtbhmippoeimliaaPx9
namespace Go.Proofs.Ytbhmippoeimliaa.P
open Go.RowKit Go.Proofs.YtbhmippoeimliaaW.PrintWords Go.Proofs.YtbhmippoeimliaaW.PrintLast Go.Proofs.YtbhmippoeimliaaW.PrintMore
attribute [local go_sem] max2_int min2_int max_two min_two max_three min_three max_four min_four   -- for this text's walks alone
set_option linter.unusedVariables false
set_option linter.unusedSimpArgs false

/-! ### spec_DenyClaim: function 102 -/
def spec_DenyClaim.f (k : Nat) (a0 : Int) (a1_0 : Int) (l1_1 : List (S81)) : Option (Int × (List (S81)) × Bool) := (some (([] : List (S81)) : List (S81))).bind fun y206 => (if y206.length + l1_1.length < 8796093022208 then ((some (y206 ++ l1_1 : List (S81))).bind fun y209 => ((some (([(⟨2, 0⟩ : S81)] : List (S81)) : List (S81))).bind fun y212 => (if y209.length + y212.length < 8796093022208 then ((some (y209 ++ y212 : List (S81))).bind fun y215 => ((spec_ClaimOk.f k a0 a1_0 l1_1).bind fun t219 => (if t219 = true then ((spec_ClaimOk.f k a0 a1_0 y215).bind fun t220 => (if t220 = true then (some (a1_0, y215, true)) else (some (0, ([] : List (S81)), false)))) else (some (0, ([] : List (S81)), false))))) else (none)))) else (none))
theorem spec_DenyClaim.mono : ∀ a0 a1 a2 k, LeO (spec_DenyClaim.f k a0 a1 a2) (spec_DenyClaim.f (k + 1) a0 a1 a2) := by
 intro a0 a1 a2 k
 unfold spec_DenyClaim.f
 repeat' first
   | (with_reducible exact spec_ClaimOk.mono _ _ _ _)
   | (with_reducible exact LeO.refl _)
   | (with_reducible exact LeO.none _)
   | (with_reducible refine LeO.ite ?_ ?_)
   | (with_reducible refine LeO.bind ?_ (fun _ => ?_))
   | exact spec_ClaimOk.mono _ _ _ _
   | exact LeO.none _
   | refine LeO.ite ?_ ?_
   | refine LeO.bind ?_ (fun _ => ?_)
def spec_DenyClaim.T1 : Bool × List (List Nat × List Nat) := (true, [([], []), ([0], [0]), ([], []), ([], []), ([3], [3]), ([2, 4], [2, 4]), ([], []), ([6], [6]), ([5, 7, 5], [5, 7]), ([1, 8], [1, 8]), ([], []), ([10, 9, 8, 0, 1, 2, 3, 4, 5, 6, 7, 8, 9, 10], [9, 10])])
def spec_DenyClaim.B1 : List Nat := [0, 1, 0, 0, 8, 28, 0, 64, 252, 511, 0, 2047]
theorem spec_DenyClaim.tab1 : rtab .any (opsOf Try.f102 1) = spec_DenyClaim.T1 := by kernel_rfl
theorem spec_DenyClaim.bits1 : waitsOk spec_DenyClaim.T1.2 spec_DenyClaim.B1 = true := by kernel_rfl
set_option maxHeartbeats 8000000 in
set_option maxRecDepth 100000 in
theorem spec_DenyClaim.calls (k : Nat) (a0 : Int) (a1_0 : Int) (A1_1 : Option Addr) (c1_1 : Nat) (l1_1 : List (S81)) (r1 : Int) (r2 : List (S81)) (r3 : Bool) (w : World) (hr1_1 : Kd.C k81 w A1_1 l1_1.length l1_1) (hc1_1 : l1_1.length ≤ c1_1) (h : spec_DenyClaim.f k a0 a1_0 l1_1 = some (r1, r2, r3)) :
  Calls Try.prog 102 #[.int .i64 a0, .agg #[.int .i64 a1_0, .slice A1_1 l1_1.length c1_1]] w fun e w' => ∃ v1_ : Value, e = .returned (.tuple #[.agg #[.int .i64 r1, v1_], .bool r3]) ∧ Kd.R k81 81 w' w.heap.size (fun _ => True) v1_ r2 ∧ Below w.heap.size w w' := by
 have hu83 := Try.underlying83
 have hu81 := Try.underlying81
 have HR1_1 := Aside0.mk hr1_1
 have HC1_1 := Aside0.mk hc1_1
 clear hr1_1 hc1_1
 have HB := Aside0.mk (Below.refl w.heap.size w)
 have H : ((some (([] : List (S81)) : List (S81))).bind fun y206 => (if y206.length + l1_1.length < 8796093022208 then ((some (y206 ++ l1_1 : List (S81))).bind fun y209 => ((some (([(⟨2, 0⟩ : S81)] : List (S81)) : List (S81))).bind fun y212 => (if y209.length + y212.length < 8796093022208 then ((some (y209 ++ y212 : List (S81))).bind fun y215 => ((spec_ClaimOk.f k a0 a1_0 l1_1).bind fun t219 => (if t219 = true then ((spec_ClaimOk.f k a0 a1_0 y215).bind fun t220 => (if t220 = true then (some (a1_0, y215, true)) else (some (0, ([] : List (S81)), false)))) else (some (0, ([] : List (S81)), false))))) else (none)))) else (none))) = some (r1, r2, r3) := h
 clear h
 obtain ⟨y206, hy206⟩ : ∃ y_ : List (S81), y_ = (([] : List (S81))) := ⟨_, rfl⟩
 replace H : (if y206.length + l1_1.length < 8796093022208 then ((some (y206 ++ l1_1 : List (S81))).bind fun y209 => ((some (([(⟨2, 0⟩ : S81)] : List (S81)) : List (S81))).bind fun y212 => (if y209.length + y212.length < 8796093022208 then ((some (y209 ++ y212 : List (S81))).bind fun y215 => ((spec_ClaimOk.f k a0 a1_0 l1_1).bind fun t219 => (if t219 = true then ((spec_ClaimOk.f k a0 a1_0 y215).bind fun t220 => (if t220 = true then (some (a1_0, y215, true)) else (some (0, ([] : List (S81)), false)))) else (some (0, ([] : List (S81)), false))))) else (none)))) else (none)) = some (r1, r2, r3) := by first | (rw [hy206]; exact H) | exact H
 have Ny206 := Aside0.mk hy206
 clear hy206
 by_cases c3 : y206.length + l1_1.length < 8796093022208
 rotate_left
 ·rw [if_neg c3] at H
  exact absurd H (by simp)
 rw [if_pos c3] at H
 have LMc3 := Aside0.mk c3
 clear c3
 obtain ⟨y209, hy209⟩ : ∃ y_ : List (S81), y_ = (y206 ++ l1_1) := ⟨_, rfl⟩
 replace H : ((some (([(⟨2, 0⟩ : S81)] : List (S81)) : List (S81))).bind fun y212 => (if y209.length + y212.length < 8796093022208 then ((some (y209 ++ y212 : List (S81))).bind fun y215 => ((spec_ClaimOk.f k a0 a1_0 l1_1).bind fun t219 => (if t219 = true then ((spec_ClaimOk.f k a0 a1_0 y215).bind fun t220 => (if t220 = true then (some (a1_0, y215, true)) else (some (0, ([] : List (S81)), false)))) else (some (0, ([] : List (S81)), false))))) else (none))) = some (r1, r2, r3) := by first | (rw [hy209]; exact H) | exact H
 have Ny209 := Aside0.mk hy209
 clear hy209
 obtain ⟨y212, hy212⟩ : ∃ y_ : List (S81), y_ = (([(⟨2, 0⟩ : S81)] : List (S81))) := ⟨_, rfl⟩
 replace H : (if y209.length + y212.length < 8796093022208 then ((some (y209 ++ y212 : List (S81))).bind fun y215 => ((spec_ClaimOk.f k a0 a1_0 l1_1).bind fun t219 => (if t219 = true then ((spec_ClaimOk.f k a0 a1_0 y215).bind fun t220 => (if t220 = true then (some (a1_0, y215, true)) else (some (0, ([] : List (S81)), false)))) else (some (0, ([] : List (S81)), false))))) else (none)) = some (r1, r2, r3) := by first | (rw [hy212]; exact H) | exact H
 have Ny212 := Aside0.mk hy212
 clear hy212
 by_cases c4 : y209.length + y212.length < 8796093022208
 rotate_left
 ·rw [if_neg c4] at H
  exact absurd H (by simp)
 rw [if_pos c4] at H
 have LMc4 := Aside0.mk c4
 clear c4
 obtain ⟨y215, hy215⟩ : ∃ y_ : List (S81), y_ = (y209 ++ y212) := ⟨_, rfl⟩
 replace H : ((spec_ClaimOk.f k a0 a1_0 l1_1).bind fun t219 => (if t219 = true then ((spec_ClaimOk.f k a0 a1_0 y215).bind fun t220 => (if t220 = true then (some (a1_0, y215, true)) else (some (0, ([] : List (S81)), false)))) else (some (0, ([] : List (S81)), false)))) = some (r1, r2, r3) := by first | (rw [hy215]; exact H) | exact H
 have Ny215 := Aside0.mk hy215
 clear hy215
 replace H := Option.bind_eq_some_iff.mp H
 obtain ⟨t219, A50, H⟩ := H
 try dsimp only at H
 have A5 := Aside0.mk A50
 clear A50
 have HH_ := Aside0.mk H
 clear H
 go_enter Try.func102, Try.ntmps102
 try go_wp2_with (first | ((with_reducible refine gate_dst (N := 3) rfl ?_); refine box_event ?hg (N := 3) ?hd (cs := #[.int .i64 a1_0, .slice A1_1 l1_1.length c1_1]) (t := 83) ?hr ?_; (case hd => rfl); (case hg => rfl); (case hr => first | (go_simp; done) | (go_simp; rfl)); intro gb204 hg w9 hbox hb; have BK204 := Aside0.mk (hbox); have GW204 := Aside0.mk ((by rw [hg]; exact (below_size (below_at HB.out)) : w.heap.size ≤ gb204)); have GE204 := Aside0.mk ((by rw [hg]; exact (below_size (below_at HB.out)) : w.heap.size ≤ gb204)); replace HB := Aside0.mk (below_step (below_at HB.out) hb); clear hb hbox hg) | ((with_reducible refine gate_dst (N := 4) rfl ?_); refine box_event ?hg (N := 4) ?hd (cs := #[.int .i64 0, .slice none 0 0]) (t := 83) ?hr ?_; (case hd => rfl); (case hg => rfl); (case hr => first | (go_simp; done) | (go_simp; rfl)); intro gb205 hg w10 hbox hb; have BK205 := Aside0.mk (hbox); have GW205 := Aside0.mk ((by rw [hg]; exact (below_size (at_ HB.out)) : w.heap.size ≤ gb205)); have GE205 := Aside0.mk ((by rw [hg]; exact (below_size (at_ HB.out)) : w.heap.size ≤ gb205)); replace HB := Aside0.mk (below_step (at_ HB.out) hb); have NB204_205 := Aside0.mk ((by rw [hg]; exact Nat.ne_of_lt (blk_lt (g := gb204) (o := .cells #[.int .i64 a1_0, .slice A1_1 l1_1.length c1_1] 83 (0, 0)) (by (with_reducible repeat (first | refine blk_drewN ?_ _ | refine blk_drew ?_ | refine blk_alloc ?_ _)); exact BK204.out)) : gb204 ≠ gb205)); have NB205_204 := Aside0.mk ((by rw [hg]; exact Nat.ne_of_gt (blk_lt (g := gb204) (o := .cells #[.int .i64 a1_0, .slice A1_1 l1_1.length c1_1] 83 (0, 0)) (by (with_reducible repeat (first | refine blk_drewN ?_ _ | refine blk_drew ?_ | refine blk_alloc ?_ _)); exact BK204.out)) : gb205 ≠ gb204)); replace BK204 := Aside0.mk (blk_at BK204.out hb); clear hb hbox hg))
 replace BK204 := Aside0.mk (blk_drew BK204.out)
 replace BK205 := Aside0.mk (blk_drew BK205.out)
 replace HB := Aside0.mk (below_drew1 HB.out)
 refine start_ (n := 12) (S := fun w' => w'.cell? ⟨gb204, 0, none⟩ = some (.int .i64 a1_0) ∧ w'.cell? ⟨gb204, 1, none⟩ = some (.slice A1_1 l1_1.length c1_1)) (ds := []) #[false, false, false, false, false, false, false, false, false, false, false, false] (by kernel_rfl) rfl rfl ⟨(blk_cell BK204.out 0).trans rfl, (blk_cell BK204.out 1).trans rfl⟩ (fun hHeld => ?_); refine with_tabW spec_DenyClaim.tab1 spec_DenyClaim.bits1 (fun HT_ HW_ => ?_)
 generalize w10.drew = w11 at BK204 BK205 HB hHeld ⊢
 refine pure_ (i := 0) (N := some 7) (v := ?_) (a' := ?_) #[true, false, false, false, false, false, false, false, false, false, false, false] rfl rfl (any_of HT_.out (by kernel_rfl)) (fun _ _ _ h => h) (Or.inl ⟨by rfl, ?_⟩) ?_ ?_
 rotate_left
 ·intro w'
  go_simp
  with_reducible rfl
 rotate_left
 ·simp only [Act.put, z0_, z1_, z2_, i64_w, i32_w]
  rfl
 refine pure_ (i := 3) (N := some 10) (v := ?_) (a' := ?_) #[true, false, false, true, false, false, false, false, false, false, false, false] rfl rfl (any_of HT_.out (by kernel_rfl)) (fun _ _ _ h => h) (Or.inl ⟨by rfl, ?_⟩) ?_ ?_
 rotate_left
 ·intro w'
  go_simp
  with_reducible rfl
 rotate_left
 ·simp only [Act.put, z0_, z1_, z2_, i64_w, i32_w]
  rfl
 refine pure_ (i := 6) (N := some 13) (v := ?_) (a' := ?_) #[true, false, false, true, false, false, true, false, false, false, false, false] rfl rfl (any_of HT_.out (by kernel_rfl)) (fun _ _ _ h => h) (Or.inl ⟨by rfl, ?_⟩) ?_ ?_
 rotate_left
 ·intro w'
  go_simp
  with_reducible rfl
 rotate_left
 ·simp only [Act.put, z0_, z1_, z2_, i64_w, i32_w]
  rfl
 refine take_ (i := 1) (N := some 8) (v := ?_) (a' := ?_) #[true, true, false, true, false, false, true, false, false, false, false, false] rfl rfl (take_ofW HT_.out HW_.out (by kernel_rfl)) (fun _ _ _ h => h) (Or.inl ⟨by rfl, ?_⟩) hHeld ?_ ?_
 rotate_left
 ·rintro w' ⟨s0, s1⟩
  go_simp
  with_reducible rfl
 rotate_left
 ·simp only [Act.put, z0_, z1_, z2_, i64_w, i32_w]
  rfl
 refine take_ (i := 4) (N := some 11) (v := ?_) (a' := ?_) #[true, true, false, true, true, false, true, false, false, false, false, false] rfl rfl (take_ofW HT_.out HW_.out (by kernel_rfl)) (fun _ _ _ h => h) (Or.inl ⟨by rfl, ?_⟩) hHeld ?_ ?_
 rotate_left
 ·rintro w' ⟨s0, s1⟩
  go_simp
  with_reducible rfl
 rotate_left
 ·simp only [Act.put, z0_, z1_, z2_, i64_w, i32_w]
  rfl
 refine join_ (σ := Value × Value × Value × Value × Nat) 1 #[true, true, true, true, true, true, true, true, true, true, true, false] (fun s_ => [(9, s_.1), (12, s_.2.1), (14, s_.2.2.1), (15, s_.2.2.2.1), (6, .pointer (some ⟨s_.2.2.2.2, 0, none⟩)), (16, .agg #[.int .i64 a1_0, s_.2.2.2.1])]) (fun s_ w' => (w'.cell? ⟨gb204, 0, none⟩ = some (.int .i64 a1_0) ∧ w'.cell? ⟨gb204, 1, none⟩ = some (.slice A1_1 l1_1.length c1_1)) ∧ (Kd.R k81 81 w' w.heap.size (fun k_ => some k_ ≠ (s_.2.2.2.1 : Value).ownBlock) s_.2.2.1 y212) ∧ (Kd.R k81 81 w' w.heap.size (fun k_ => some k_ ≠ (s_.2.2.1 : Value).ownBlock) s_.2.2.2.1 y215) ∧ (w'.heap[gb204]? = some (.cells #[.int .i64 a1_0, .slice A1_1 l1_1.length c1_1] 83 (0, 0))) ∧ (w'.heap[gb205]? = some (.cells #[.int .i64 0, .slice none 0 0] 83 (0, 0))) ∧ (w'.heap[s_.2.2.2.2]? = some (.cells #[.int .i64 0, .slice none 0 0] 83 (0, 0))) ∧ (w.heap.size ≤ s_.2.2.2.2) ∧ (w.heap.size ≤ s_.2.2.2.2) ∧ (gb204 ≠ s_.2.2.2.2) ∧ (s_.2.2.2.2 ≠ gb204) ∧ (gb205 ≠ s_.2.2.2.2) ∧ (s_.2.2.2.2 ≠ gb205) ∧ (Below w.heap.size w w')) ?_ ?_
 rotate_left
 ·intro hJ2_5_7_8_10
  refine join_ (σ := Value × Value × Value × Value) 2 #[true, true, true, true, true, true, true, true, true, true, false, false] (fun s_ => [(9, s_.1), (12, s_.2.1), (14, s_.2.2.1), (15, s_.2.2.2), (16, .agg #[.int .i64 a1_0, s_.2.2.2])]) (fun s_ w' => (w'.cell? ⟨gb204, 0, none⟩ = some (.int .i64 a1_0) ∧ w'.cell? ⟨gb204, 1, none⟩ = some (.slice A1_1 l1_1.length c1_1)) ∧ (Kd.R k81 81 w' w.heap.size (fun k_ => some k_ ≠ (s_.2.2.2 : Value).ownBlock) s_.2.2.1 y212) ∧ (Kd.R k81 81 w' w.heap.size (fun k_ => some k_ ≠ (s_.2.2.1 : Value).ownBlock) s_.2.2.2 y215) ∧ (w'.heap[gb204]? = some (.cells #[.int .i64 a1_0, .slice A1_1 l1_1.length c1_1] 83 (0, 0))) ∧ (w'.heap[gb205]? = some (.cells #[.int .i64 0, .slice none 0 0] 83 (0, 0))) ∧ (Below w.heap.size w w')) ?_ ?_
  rotate_left
  rotate_left
  ·skip
   rintro ⟨v207, v210, v213, v216⟩ w20 ⟨hS_, h0_, h1_, h2_, h3_, h4_⟩
   have n0_ : Aside0 (Kd.R k81 81 w20 w.heap.size (fun k_ => some k_ ≠ (v216 : Value).ownBlock) v213 y212) := ⟨h0_⟩
   have n1_ : Aside0 (Kd.R k81 81 w20 w.heap.size (fun k_ => some k_ ≠ (v213 : Value).ownBlock) v216 y215) := ⟨h1_⟩
   have n2_ : Aside0 (w20.heap[gb204]? = some (.cells #[.int .i64 a1_0, .slice A1_1 l1_1.length c1_1] 83 (0, 0))) := ⟨h2_⟩
   have n3_ : Aside0 (w20.heap[gb205]? = some (.cells #[.int .i64 0, .slice none 0 0] 83 (0, 0))) := ⟨h3_⟩
   have n4_ : Aside0 (Below w.heap.size w w20) := ⟨h4_⟩
   clear BK204
   clear BK205
   clear HB
   clear h0_ h1_ h2_ h3_ h4_
   have HO214 := n0_
   have HO217 := n1_
   have BK204 := n2_
   have BK205 := n3_
   have HB := n4_
   clear n0_ n1_ n2_ n3_ n4_
   have hHeld : w20.cell? ⟨gb204, 0, none⟩ = some (.int .i64 a1_0) ∧ w20.cell? ⟨gb204, 1, none⟩ = some (.slice A1_1 l1_1.length c1_1) := hS_
   obtain ⟨Ao21, co21, eo21⟩ := Kd.R_slice HO217.out
   (first | subst eo21 | (injection eo21 with f1_ f2_ f3_; have f4_ := f1_.symm; have f5_ := f3_.symm; clear f1_ f2_ f3_; subst f4_; subst f5_))
   refine norm_ (a' := ?_) ?_ ?_
   rotate_left
   ·simp only [putAll, Act.put, z0_, z1_, z2_]
    rfl
   refine one_ (i := 10) (N := some 6) #[true, true, true, true, true, true, true, true, true, true, true, false] rfl rfl (one_of HT_.out (by kernel_rfl)) (by decide) (fun K hK => ?_)
   refine box_step ?hg (N := 6) ?hd (cs := #[.int .i64 0, .slice none 0 0]) (t := 83) ?hr ?_; (case hd => rfl); (case hg => rfl); (case hr => first | (go_simp; done) | (go_simp; rfl))
   intro gb218 hg w22 hbox hb
   replace HO214 := Aside0.mk (Kd.R_below (Kd.R_below HO214.out lt_) hb)
   replace HO217 := Aside0.mk (Kd.R_below (Kd.R_below HO217.out lt_) hb)
   have BK218 := Aside0.mk (hbox)
   have GW218 := Aside0.mk ((by rw [hg]; exact (below_size (at_ HB.out)) : w.heap.size ≤ gb218))
   have GE218 := Aside0.mk ((by rw [hg]; exact (below_size (at_ HB.out)) : w.heap.size ≤ gb218))
   replace HB := Aside0.mk (below_step (at_ HB.out) hb)
   have NB204_218 := Aside0.mk ((by rw [hg]; exact Nat.ne_of_lt (blk_lt (g := gb204) (o := .cells #[.int .i64 a1_0, .slice A1_1 l1_1.length c1_1] 83 (0, 0)) (by (with_reducible repeat (first | refine blk_drewN ?_ _ | refine blk_drew ?_ | refine blk_alloc ?_ _)); exact BK204.out)) : gb204 ≠ gb218))
   have NB218_204 := Aside0.mk ((by rw [hg]; exact Nat.ne_of_gt (blk_lt (g := gb204) (o := .cells #[.int .i64 a1_0, .slice A1_1 l1_1.length c1_1] 83 (0, 0)) (by (with_reducible repeat (first | refine blk_drewN ?_ _ | refine blk_drew ?_ | refine blk_alloc ?_ _)); exact BK204.out)) : gb218 ≠ gb204))
   replace BK204 := Aside0.mk (blk_at BK204.out hb)
   have NB205_218 := Aside0.mk ((by rw [hg]; exact Nat.ne_of_lt (blk_lt (g := gb205) (o := .cells #[.int .i64 0, .slice none 0 0] 83 (0, 0)) (by (with_reducible repeat (first | refine blk_drewN ?_ _ | refine blk_drew ?_ | refine blk_alloc ?_ _)); exact BK205.out)) : gb205 ≠ gb218))
   have NB218_205 := Aside0.mk ((by rw [hg]; exact Nat.ne_of_gt (blk_lt (g := gb205) (o := .cells #[.int .i64 0, .slice none 0 0] 83 (0, 0)) (by (with_reducible repeat (first | refine blk_drewN ?_ _ | refine blk_drew ?_ | refine blk_alloc ?_ _)); exact BK205.out)) : gb218 ≠ gb205))
   replace BK205 := Aside0.mk (blk_at BK205.out hb)
   clear hb hbox hg
   refine hK.out _ _ ⟨(blk_cell BK204.out 0).trans rfl, (blk_cell BK204.out 1).trans rfl⟩ (fun hHeld => ?_)
   clear hK K
   refine norm_ (a' := ?_) ?_ ?_
   rotate_left
   ·show Act.put _ (some 6) _ = _
    simp only [Act.put, z0_, z1_, z2_, i64_w, i32_w]
    rfl
   exact norm_ (by first | (simp only [putAll, Act.put, z0_, z1_, z2_]; done) | (simp only [putAll, Act.put, z0_, z1_, z2_]; rfl)) (hJ2_5_7_8_10 (v207, v210, v213, .slice Ao21 y215.length co21, gb218) _ ⟨hHeld, (Kd.R_below HO214.out lt_), (Kd.R_below HO217.out lt_), (by (with_reducible repeat (first | refine blk_drewN ?_ _ | refine blk_drew ?_ | refine blk_alloc ?_ _)); exact BK204.out), (by (with_reducible repeat (first | refine blk_drewN ?_ _ | refine blk_drew ?_ | refine blk_alloc ?_ _)); exact BK205.out), (by (with_reducible repeat (first | refine blk_drewN ?_ _ | refine blk_drew ?_ | refine blk_alloc ?_ _)); exact BK218.out), GW218.out, GE218.out, NB204_218.out, NB218_204.out, NB205_218.out, NB218_205.out, (at_ HB.out)⟩)
  intro hJ2_5_7_8
  refine join_ (σ := Value × Value × Value × Nat) 3 #[true, true, true, true, true, true, true, true, false, false, true, false] (fun s_ => [(9, s_.1), (12, s_.2.1), (14, s_.2.2.1), (6, .pointer (some ⟨s_.2.2.2, 0, none⟩))]) (fun s_ w' => (w'.cell? ⟨gb204, 0, none⟩ = some (.int .i64 a1_0) ∧ w'.cell? ⟨gb204, 1, none⟩ = some (.slice A1_1 l1_1.length c1_1)) ∧ (Kd.R k81 81 w' w.heap.size (fun k_ => some k_ ≠ (s_.2.2.1 : Value).ownBlock) s_.2.1 y209) ∧ (Kd.R k81 81 w' w.heap.size (fun k_ => some k_ ≠ (s_.2.1 : Value).ownBlock) s_.2.2.1 y212) ∧ (w'.heap[gb204]? = some (.cells #[.int .i64 a1_0, .slice A1_1 l1_1.length c1_1] 83 (0, 0))) ∧ (w'.heap[gb205]? = some (.cells #[.int .i64 0, .slice none 0 0] 83 (0, 0))) ∧ (w'.heap[s_.2.2.2]? = some (.cells #[.int .i64 0, .slice none 0 0] 83 (0, 0))) ∧ (w.heap.size ≤ s_.2.2.2) ∧ (w.heap.size ≤ s_.2.2.2) ∧ (gb204 ≠ s_.2.2.2) ∧ (s_.2.2.2 ≠ gb204) ∧ (gb205 ≠ s_.2.2.2) ∧ (s_.2.2.2 ≠ gb205) ∧ (Below w.heap.size w w')) ?_ ?_
  rotate_left
  rotate_left
  ·skip
   rintro ⟨v207, v210, v213, gb218⟩ w18 ⟨hS_, h0_, h1_, h2_, h3_, h4_, h5_, h6_, h7_, h8_, h9_, h10_, h11_⟩
   have n0_ : Aside0 (Kd.R k81 81 w18 w.heap.size (fun k_ => some k_ ≠ (v213 : Value).ownBlock) v210 y209) := ⟨h0_⟩
   have n1_ : Aside0 (Kd.R k81 81 w18 w.heap.size (fun k_ => some k_ ≠ (v210 : Value).ownBlock) v213 y212) := ⟨h1_⟩
   have n2_ : Aside0 (w18.heap[gb204]? = some (.cells #[.int .i64 a1_0, .slice A1_1 l1_1.length c1_1] 83 (0, 0))) := ⟨h2_⟩
   have n3_ : Aside0 (w18.heap[gb205]? = some (.cells #[.int .i64 0, .slice none 0 0] 83 (0, 0))) := ⟨h3_⟩
   have n4_ : Aside0 (w18.heap[gb218]? = some (.cells #[.int .i64 0, .slice none 0 0] 83 (0, 0))) := ⟨h4_⟩
   have n5_ : Aside0 (w.heap.size ≤ gb218) := ⟨h5_⟩
   have n6_ : Aside0 (w.heap.size ≤ gb218) := ⟨h6_⟩
   have n7_ : Aside0 (gb204 ≠ gb218) := ⟨h7_⟩
   have n8_ : Aside0 (gb218 ≠ gb204) := ⟨h8_⟩
   have n9_ : Aside0 (gb205 ≠ gb218) := ⟨h9_⟩
   have n10_ : Aside0 (gb218 ≠ gb205) := ⟨h10_⟩
   have n11_ : Aside0 (Below w.heap.size w w18) := ⟨h11_⟩
   clear BK204
   clear BK205
   clear HB
   clear h0_ h1_ h2_ h3_ h4_ h5_ h6_ h7_ h8_ h9_ h10_ h11_
   have HO211 := n0_
   have HO214 := n1_
   have BK204 := n2_
   have BK205 := n3_
   have BK218 := n4_
   have GW218 := n5_
   have GE218 := n6_
   have NB204_218 := n7_
   have NB218_204 := n8_
   have NB205_218 := n9_
   have NB218_205 := n10_
   have HB := n11_
   clear n0_ n1_ n2_ n3_ n4_ n5_ n6_ n7_ n8_ n9_ n10_ n11_
   have hHeld : w18.cell? ⟨gb204, 0, none⟩ = some (.int .i64 a1_0) ∧ w18.cell? ⟨gb204, 1, none⟩ = some (.slice A1_1 l1_1.length c1_1) := hS_
   obtain ⟨Ao20, co20, eo20⟩ := Kd.R_slice HO214.out
   (first | subst eo20 | (injection eo20 with f1_ f2_ f3_; have f4_ := f1_.symm; have f5_ := f3_.symm; clear f1_ f2_ f3_; subst f4_; subst f5_))
   refine norm_ (a' := ?_) ?_ ?_
   rotate_left
   ·simp only [putAll, Act.put, z0_, z1_, z2_]
    rfl
   refine one_ (i := 8) (N := some 15) #[true, true, true, true, true, true, true, true, true, false, true, false] rfl rfl (one_of HT_.out (by kernel_rfl)) (by decide) (fun K hK => ?_)
   refine Kd.R_append_rows_step k81 (w0 := w) w.heap.size (by rfl) (.tmp 12) (.tmp 14) 56 81 (.agg #[(.int .i64 0), (.int .i64 0)]) 16 rfl Try.underlying56 info81 rfl (by decide) (by omega) v210 y209 y212 _ _ _ (fun k_ => some k_ ≠ (.slice Ao20 y212.length co20 : Value).ownBlock) (fun _ => False) rfl rfl ?aO ?aR (fun _ _ h => h) (fun _ h => h.elim) ?aF ?aB ?aS ?aL ?_
   (case aR => exact Kd.C_below (Kd.R_reads' HO214.out).2.2 lt_)
   (case aB => exact (at_ HB.out))
   (case aF => exact (fun k_ hk => Kd.fresh' (Kd.R_lt (Kd.R_below HO214.out lt_)) k_ hk))
   (case aO => exact (Kd.R_below HO211.out lt_))
   (case aS => exact (below_size (at_ HB.out)))
   (case aL => have := LMc4.out; omega)
   intro v216 w19 ho hb hg hat
   rw [← Ny215.out] at ho
   replace BK204 := Aside0.mk (blk_grown (g := gb204) (o := .cells #[.int .i64 a1_0, .slice A1_1 l1_1.length c1_1] 83 (0, 0)) (by (with_reducible repeat (first | refine blk_drewN ?_ _ | refine blk_drew ?_ | refine blk_alloc ?_ _)); exact BK204.out) hg (Kd.R_ne HO211.out BK204.out (by decide)))
   replace BK205 := Aside0.mk (blk_grown (g := gb205) (o := .cells #[.int .i64 0, .slice none 0 0] 83 (0, 0)) (by (with_reducible repeat (first | refine blk_drewN ?_ _ | refine blk_drew ?_ | refine blk_alloc ?_ _)); exact BK205.out) hg (Kd.R_ne HO211.out BK205.out (by decide)))
   replace HO214 := Aside0.mk (Kd.R_after (ok := (fun _ => True)) (Kd.R_below (Kd.R_mono HO214.out (fun _ hk => ⟨trivial, hk⟩)) lt_) hg hat)
   replace BK218 := Aside0.mk (blk_grown (g := gb218) (o := .cells #[.int .i64 0, .slice none 0 0] 83 (0, 0)) (by (with_reducible repeat (first | refine blk_drewN ?_ _ | refine blk_drew ?_ | refine blk_alloc ?_ _)); exact BK218.out) hg (Kd.R_ne HO211.out BK218.out (by decide)))
   replace HB := Aside0.mk (hb)
   have HO217 := Aside0.mk (ho)
   (try clear HO211)
   clear ho hb hg hat
   obtain ⟨Ao21, co21, eo21⟩ := Kd.R_slice HO217.out
   (first | subst eo21 | (injection eo21 with f1_ f2_ f3_; have f4_ := f1_.symm; have f5_ := f3_.symm; clear f1_ f2_ f3_; subst f4_; subst f5_))
   refine hK.out _ _ ⟨(blk_cell BK204.out 0).trans rfl, (blk_cell BK204.out 1).trans rfl⟩ (fun hHeld => ?_)
   clear hK K
   refine norm_ (a' := ?_) ?_ ?_
   rotate_left
   ·show Act.put _ (some 15) _ = _
    simp only [Act.put, z0_, z1_, z2_, i64_w, i32_w]
    rfl
   refine pure_ (i := 9) (N := some 16) (v := ?_) (a' := ?_) #[true, true, true, true, true, true, true, true, true, true, true, false] rfl rfl (any_of HT_.out (by kernel_rfl)) (fun _ _ _ h => h) (Or.inl ⟨by rfl, ?_⟩) ?_ ?_
   rotate_left
   ·intro w'
    go_simp
    with_reducible rfl
   rotate_left
   ·simp only [Act.put, z0_, z1_, z2_, i64_w, i32_w]
    rfl
   exact norm_ (by first | (simp only [putAll, Act.put, z0_, z1_, z2_]; done) | (simp only [putAll, Act.put, z0_, z1_, z2_]; rfl)) (hJ2_5_7_8_10 (v207, v210, .slice Ao20 y212.length co20, .slice Ao21 y215.length co21, gb218) _ ⟨hHeld, (Kd.R_below (Kd.R_mono HO214.out (fun _ hk => hk.2)) lt_), (Kd.R_below HO217.out lt_), (by (with_reducible repeat (first | refine blk_drewN ?_ _ | refine blk_drew ?_ | refine blk_alloc ?_ _)); exact BK204.out), (by (with_reducible repeat (first | refine blk_drewN ?_ _ | refine blk_drew ?_ | refine blk_alloc ?_ _)); exact BK205.out), (by (with_reducible repeat (first | refine blk_drewN ?_ _ | refine blk_drew ?_ | refine blk_alloc ?_ _)); exact BK218.out), GW218.out, GE218.out, NB204_218.out, NB218_204.out, NB205_218.out, NB218_205.out, (at_ HB.out)⟩)
  intro hJ2_5_7_10
  refine join_ (σ := Value × Value × Value) 4 #[true, true, true, true, true, true, true, true, false, false, false, false] (fun s_ => [(9, s_.1), (12, s_.2.1), (14, s_.2.2)]) (fun s_ w' => (w'.cell? ⟨gb204, 0, none⟩ = some (.int .i64 a1_0) ∧ w'.cell? ⟨gb204, 1, none⟩ = some (.slice A1_1 l1_1.length c1_1)) ∧ (Kd.R k81 81 w' w.heap.size (fun k_ => some k_ ≠ (s_.2.2 : Value).ownBlock) s_.2.1 y209) ∧ (Kd.R k81 81 w' w.heap.size (fun k_ => some k_ ≠ (s_.2.1 : Value).ownBlock) s_.2.2 y212) ∧ (w'.heap[gb204]? = some (.cells #[.int .i64 a1_0, .slice A1_1 l1_1.length c1_1] 83 (0, 0))) ∧ (w'.heap[gb205]? = some (.cells #[.int .i64 0, .slice none 0 0] 83 (0, 0))) ∧ (Below w.heap.size w w')) ?_ ?_
  rotate_left
  rotate_left
  ·skip
   rintro ⟨v207, v210, v213⟩ w17 ⟨hS_, h0_, h1_, h2_, h3_, h4_⟩
   have n0_ : Aside0 (Kd.R k81 81 w17 w.heap.size (fun k_ => some k_ ≠ (v213 : Value).ownBlock) v210 y209) := ⟨h0_⟩
   have n1_ : Aside0 (Kd.R k81 81 w17 w.heap.size (fun k_ => some k_ ≠ (v210 : Value).ownBlock) v213 y212) := ⟨h1_⟩
   have n2_ : Aside0 (w17.heap[gb204]? = some (.cells #[.int .i64 a1_0, .slice A1_1 l1_1.length c1_1] 83 (0, 0))) := ⟨h2_⟩
   have n3_ : Aside0 (w17.heap[gb205]? = some (.cells #[.int .i64 0, .slice none 0 0] 83 (0, 0))) := ⟨h3_⟩
   have n4_ : Aside0 (Below w.heap.size w w17) := ⟨h4_⟩
   clear BK204
   clear BK205
   clear HB
   clear h0_ h1_ h2_ h3_ h4_
   have HO211 := n0_
   have HO214 := n1_
   have BK204 := n2_
   have BK205 := n3_
   have HB := n4_
   clear n0_ n1_ n2_ n3_ n4_
   have hHeld : w17.cell? ⟨gb204, 0, none⟩ = some (.int .i64 a1_0) ∧ w17.cell? ⟨gb204, 1, none⟩ = some (.slice A1_1 l1_1.length c1_1) := hS_
   obtain ⟨Ao19, co19, eo19⟩ := Kd.R_slice HO214.out
   (first | subst eo19 | (injection eo19 with f1_ f2_ f3_; have f4_ := f1_.symm; have f5_ := f3_.symm; clear f1_ f2_ f3_; subst f4_; subst f5_))
   refine norm_ (a' := ?_) ?_ ?_
   rotate_left
   ·simp only [putAll, Act.put, z0_, z1_, z2_]
    rfl
   refine two_ (i := 8) (j := 10) (Ni := some 15) (Nj := some 6) #[true, true, true, true, true, true, true, true, true, false, false, false] #[true, true, true, true, true, true, true, true, false, false, true, false] rfl rfl rfl rfl (two_of HT_.out (by kernel_rfl)) (by decide) (by decide) (fun K hK => ?_) (fun K hK => ?_)
   ·skip
    refine Kd.R_append_rows_step k81 (w0 := w) w.heap.size (by rfl) (.tmp 12) (.tmp 14) 56 81 (.agg #[(.int .i64 0), (.int .i64 0)]) 16 rfl Try.underlying56 info81 rfl (by decide) (by omega) v210 y209 y212 _ _ _ (fun k_ => some k_ ≠ (.slice Ao19 y212.length co19 : Value).ownBlock) (fun _ => False) rfl rfl ?aO ?aR (fun _ _ h => h) (fun _ h => h.elim) ?aF ?aB ?aS ?aL ?_
    (case aR => exact Kd.C_below (Kd.R_reads' HO214.out).2.2 lt_)
    (case aB => exact (at_ HB.out))
    (case aF => exact (fun k_ hk => Kd.fresh' (Kd.R_lt (Kd.R_below HO214.out lt_)) k_ hk))
    (case aO => exact (Kd.R_below HO211.out lt_))
    (case aS => exact (below_size (at_ HB.out)))
    (case aL => have := LMc4.out; omega)
    intro v216 w18 ho hb hg hat
    rw [← Ny215.out] at ho
    replace BK204 := Aside0.mk (blk_grown (g := gb204) (o := .cells #[.int .i64 a1_0, .slice A1_1 l1_1.length c1_1] 83 (0, 0)) (by (with_reducible repeat (first | refine blk_drewN ?_ _ | refine blk_drew ?_ | refine blk_alloc ?_ _)); exact BK204.out) hg (Kd.R_ne HO211.out BK204.out (by decide)))
    replace BK205 := Aside0.mk (blk_grown (g := gb205) (o := .cells #[.int .i64 0, .slice none 0 0] 83 (0, 0)) (by (with_reducible repeat (first | refine blk_drewN ?_ _ | refine blk_drew ?_ | refine blk_alloc ?_ _)); exact BK205.out) hg (Kd.R_ne HO211.out BK205.out (by decide)))
    replace HO214 := Aside0.mk (Kd.R_after (ok := (fun _ => True)) (Kd.R_below (Kd.R_mono HO214.out (fun _ hk => ⟨trivial, hk⟩)) lt_) hg hat)
    replace HB := Aside0.mk (hb)
    have HO217 := Aside0.mk (ho)
    (try clear HO211)
    clear ho hb hg hat
    obtain ⟨Ao20, co20, eo20⟩ := Kd.R_slice HO217.out
    (first | subst eo20 | (injection eo20 with f1_ f2_ f3_; have f4_ := f1_.symm; have f5_ := f3_.symm; clear f1_ f2_ f3_; subst f4_; subst f5_))
    refine hK.out _ _ ⟨(blk_cell BK204.out 0).trans rfl, (blk_cell BK204.out 1).trans rfl⟩ (fun hHeld => ?_)
    clear hK K
    refine norm_ (a' := ?_) ?_ ?_
    rotate_left
    ·show Act.put _ (some 15) _ = _
     simp only [Act.put, z0_, z1_, z2_, i64_w, i32_w]
     rfl
    refine pure_ (i := 9) (N := some 16) (v := ?_) (a' := ?_) #[true, true, true, true, true, true, true, true, true, true, false, false] rfl rfl (any_of HT_.out (by kernel_rfl)) (fun _ _ _ h => h) (Or.inl ⟨by rfl, ?_⟩) ?_ ?_
    rotate_left
    ·intro w'
     go_simp
     with_reducible rfl
    rotate_left
    ·simp only [Act.put, z0_, z1_, z2_, i64_w, i32_w]
     rfl
    exact norm_ (by first | (simp only [putAll, Act.put, z0_, z1_, z2_]; done) | (simp only [putAll, Act.put, z0_, z1_, z2_]; rfl)) (hJ2_5_7_8 (v207, v210, .slice Ao19 y212.length co19, .slice Ao20 y215.length co20) _ ⟨hHeld, (Kd.R_below (Kd.R_mono HO214.out (fun _ hk => hk.2)) lt_), (Kd.R_below HO217.out lt_), (by (with_reducible repeat (first | refine blk_drewN ?_ _ | refine blk_drew ?_ | refine blk_alloc ?_ _)); exact BK204.out), (by (with_reducible repeat (first | refine blk_drewN ?_ _ | refine blk_drew ?_ | refine blk_alloc ?_ _)); exact BK205.out), (at_ HB.out)⟩)
   skip
   refine box_step ?hg (N := 6) ?hd (cs := #[.int .i64 0, .slice none 0 0]) (t := 83) ?hr ?_; (case hd => rfl); (case hg => rfl); (case hr => first | (go_simp; done) | (go_simp; rfl))
   intro gb218 hg w18 hbox hb
   replace HO211 := Aside0.mk (Kd.R_below (Kd.R_below HO211.out lt_) hb)
   replace HO214 := Aside0.mk (Kd.R_below (Kd.R_below HO214.out lt_) hb)
   have BK218 := Aside0.mk (hbox)
   have GW218 := Aside0.mk ((by rw [hg]; exact (below_size (at_ HB.out)) : w.heap.size ≤ gb218))
   have GE218 := Aside0.mk ((by rw [hg]; exact (below_size (at_ HB.out)) : w.heap.size ≤ gb218))
   replace HB := Aside0.mk (below_step (at_ HB.out) hb)
   have NB204_218 := Aside0.mk ((by rw [hg]; exact Nat.ne_of_lt (blk_lt (g := gb204) (o := .cells #[.int .i64 a1_0, .slice A1_1 l1_1.length c1_1] 83 (0, 0)) (by (with_reducible repeat (first | refine blk_drewN ?_ _ | refine blk_drew ?_ | refine blk_alloc ?_ _)); exact BK204.out)) : gb204 ≠ gb218))
   have NB218_204 := Aside0.mk ((by rw [hg]; exact Nat.ne_of_gt (blk_lt (g := gb204) (o := .cells #[.int .i64 a1_0, .slice A1_1 l1_1.length c1_1] 83 (0, 0)) (by (with_reducible repeat (first | refine blk_drewN ?_ _ | refine blk_drew ?_ | refine blk_alloc ?_ _)); exact BK204.out)) : gb218 ≠ gb204))
   replace BK204 := Aside0.mk (blk_at BK204.out hb)
   have NB205_218 := Aside0.mk ((by rw [hg]; exact Nat.ne_of_lt (blk_lt (g := gb205) (o := .cells #[.int .i64 0, .slice none 0 0] 83 (0, 0)) (by (with_reducible repeat (first | refine blk_drewN ?_ _ | refine blk_drew ?_ | refine blk_alloc ?_ _)); exact BK205.out)) : gb205 ≠ gb218))
   have NB218_205 := Aside0.mk ((by rw [hg]; exact Nat.ne_of_gt (blk_lt (g := gb205) (o := .cells #[.int .i64 0, .slice none 0 0] 83 (0, 0)) (by (with_reducible repeat (first | refine blk_drewN ?_ _ | refine blk_drew ?_ | refine blk_alloc ?_ _)); exact BK205.out)) : gb218 ≠ gb205))
   replace BK205 := Aside0.mk (blk_at BK205.out hb)
   clear hb hbox hg
   refine hK.out _ _ ⟨(blk_cell BK204.out 0).trans rfl, (blk_cell BK204.out 1).trans rfl⟩ (fun hHeld => ?_)
   clear hK K
   refine norm_ (a' := ?_) ?_ ?_
   rotate_left
   ·show Act.put _ (some 6) _ = _
    simp only [Act.put, z0_, z1_, z2_, i64_w, i32_w]
    rfl
   exact norm_ (by first | (simp only [putAll, Act.put, z0_, z1_, z2_]; done) | (simp only [putAll, Act.put, z0_, z1_, z2_]; rfl)) (hJ2_5_7_10 (v207, v210, (.slice Ao19 y212.length co19), gb218) _ ⟨hHeld, (Kd.R_below HO211.out lt_), (Kd.R_below HO214.out lt_), (by (with_reducible repeat (first | refine blk_drewN ?_ _ | refine blk_drew ?_ | refine blk_alloc ?_ _)); exact BK204.out), (by (with_reducible repeat (first | refine blk_drewN ?_ _ | refine blk_drew ?_ | refine blk_alloc ?_ _)); exact BK205.out), (by (with_reducible repeat (first | refine blk_drewN ?_ _ | refine blk_drew ?_ | refine blk_alloc ?_ _)); exact BK218.out), GW218.out, GE218.out, NB204_218.out, NB218_204.out, NB205_218.out, NB218_205.out, (at_ HB.out)⟩)
  intro hJ2_5_7
  refine join_ (σ := Value × Value × Nat) 4 #[true, true, true, true, true, true, true, false, false, false, true, false] (fun s_ => [(9, s_.1), (12, s_.2.1), (6, .pointer (some ⟨s_.2.2, 0, none⟩))]) (fun s_ w' => (w'.cell? ⟨gb204, 0, none⟩ = some (.int .i64 a1_0) ∧ w'.cell? ⟨gb204, 1, none⟩ = some (.slice A1_1 l1_1.length c1_1)) ∧ (Kd.R k81 81 w' w.heap.size (fun _ => True) s_.2.1 y209) ∧ (w'.heap[gb204]? = some (.cells #[.int .i64 a1_0, .slice A1_1 l1_1.length c1_1] 83 (0, 0))) ∧ (w'.heap[gb205]? = some (.cells #[.int .i64 0, .slice none 0 0] 83 (0, 0))) ∧ (w'.heap[s_.2.2]? = some (.cells #[.int .i64 0, .slice none 0 0] 83 (0, 0))) ∧ (w.heap.size ≤ s_.2.2) ∧ (w.heap.size ≤ s_.2.2) ∧ (gb204 ≠ s_.2.2) ∧ (s_.2.2 ≠ gb204) ∧ (gb205 ≠ s_.2.2) ∧ (s_.2.2 ≠ gb205) ∧ (Below w.heap.size w w')) ?_ ?_
  rotate_left
  rotate_left
  ·skip
   rintro ⟨v207, v210, gb218⟩ w16 ⟨hS_, h0_, h1_, h2_, h3_, h4_, h5_, h6_, h7_, h8_, h9_, h10_⟩
   have n0_ : Aside0 (Kd.R k81 81 w16 w.heap.size (fun _ => True) v210 y209) := ⟨h0_⟩
   have n1_ : Aside0 (w16.heap[gb204]? = some (.cells #[.int .i64 a1_0, .slice A1_1 l1_1.length c1_1] 83 (0, 0))) := ⟨h1_⟩
   have n2_ : Aside0 (w16.heap[gb205]? = some (.cells #[.int .i64 0, .slice none 0 0] 83 (0, 0))) := ⟨h2_⟩
   have n3_ : Aside0 (w16.heap[gb218]? = some (.cells #[.int .i64 0, .slice none 0 0] 83 (0, 0))) := ⟨h3_⟩
   have n4_ : Aside0 (w.heap.size ≤ gb218) := ⟨h4_⟩
   have n5_ : Aside0 (w.heap.size ≤ gb218) := ⟨h5_⟩
   have n6_ : Aside0 (gb204 ≠ gb218) := ⟨h6_⟩
   have n7_ : Aside0 (gb218 ≠ gb204) := ⟨h7_⟩
   have n8_ : Aside0 (gb205 ≠ gb218) := ⟨h8_⟩
   have n9_ : Aside0 (gb218 ≠ gb205) := ⟨h9_⟩
   have n10_ : Aside0 (Below w.heap.size w w16) := ⟨h10_⟩
   clear BK204
   clear BK205
   clear HB
   clear h0_ h1_ h2_ h3_ h4_ h5_ h6_ h7_ h8_ h9_ h10_
   have HO211 := n0_
   have BK204 := n1_
   have BK205 := n2_
   have BK218 := n3_
   have GW218 := n4_
   have GE218 := n5_
   have NB204_218 := n6_
   have NB218_204 := n7_
   have NB205_218 := n8_
   have NB218_205 := n9_
   have HB := n10_
   clear n0_ n1_ n2_ n3_ n4_ n5_ n6_ n7_ n8_ n9_ n10_
   have hHeld : w16.cell? ⟨gb204, 0, none⟩ = some (.int .i64 a1_0) ∧ w16.cell? ⟨gb204, 1, none⟩ = some (.slice A1_1 l1_1.length c1_1) := hS_
   refine norm_ (a' := ?_) ?_ ?_
   rotate_left
   ·simp only [putAll, Act.put, z0_, z1_, z2_]
    rfl
   refine one_ (i := 7) (N := some 14) #[true, true, true, true, true, true, true, true, false, false, true, false] rfl rfl (one_of HT_.out (by kernel_rfl)) (by decide) (fun K hK => ?_)
   refine Kd.R_lit_step k81 _ 81 ?hg (N := 14) ?hd (xs := ([(⟨2, 0⟩ : S81)] : List (S81))) (inner := [.int .i64 2, .int .i64 0]) (ok := fun _ => True) (okp := fun _ => True) ?hr ?hp (fun _ hk => hk) trivial (Below.refl _ _) (Nat.le_refl _) (by simp) ?_; (case hd => rfl); (case hg => rfl); (case hr => first | (go_simp; done) | (go_simp; rfl)); (case hp => exact (Reps.c2 (show Kd.M k81 _ _ _ (⟨2, 0⟩ : S81) [.int .i64 2, .int .i64 0] from (k81_mkM _ _ _ (⟨2, 0⟩ : S81) )) (Reps.none _ _)))
   intro v213 w17 ho18 hb hg_ hnew_
   clear hg_ hnew_
   (first | rw [← Ny212.out] at ho18 | (simp only [Int.reduceToNat] at ho18; rw [← Ny212.out] at ho18))
   have HO214 := Aside0.mk (Kd.R_lower (Kd.R_new' ho18 (Kd.R_lt (Kd.R_below HO211.out lt_))) (below_size (at_ HB.out)))
   replace HO211 := Aside0.mk (Kd.R_elder' (Kd.R_below HO211.out lt_) (Kd.R_base ho18) hb)
   replace BK204 := Aside0.mk (blk_at BK204.out hb)
   replace BK205 := Aside0.mk (blk_at BK205.out hb)
   replace BK218 := Aside0.mk (blk_at BK218.out hb)
   replace HB := Aside0.mk (below_step (at_ HB.out) hb)
   clear hb ho18
   refine hK.out _ _ ⟨(blk_cell BK204.out 0).trans rfl, (blk_cell BK204.out 1).trans rfl⟩ (fun hHeld => ?_)
   clear hK K
   refine norm_ (a' := ?_) ?_ ?_
   rotate_left
   ·show Act.put _ (some 14) _ = _
    simp only [Act.put, z0_, z1_, z2_, i64_w, i32_w]
    rfl
   exact norm_ (by first | (simp only [putAll, Act.put, z0_, z1_, z2_]; done) | (simp only [putAll, Act.put, z0_, z1_, z2_]; rfl)) (hJ2_5_7_10 (v207, v210, v213, gb218) _ ⟨hHeld, (Kd.R_below (Kd.R_mono HO211.out (fun _ hk => hk.2)) lt_), (Kd.R_below (Kd.R_mono HO214.out (fun _ hk => hk.2)) lt_), (by (with_reducible repeat (first | refine blk_drewN ?_ _ | refine blk_drew ?_ | refine blk_alloc ?_ _)); exact BK204.out), (by (with_reducible repeat (first | refine blk_drewN ?_ _ | refine blk_drew ?_ | refine blk_alloc ?_ _)); exact BK205.out), (by (with_reducible repeat (first | refine blk_drewN ?_ _ | refine blk_drew ?_ | refine blk_alloc ?_ _)); exact BK218.out), GW218.out, GE218.out, NB204_218.out, NB218_204.out, NB205_218.out, NB218_205.out, (at_ HB.out)⟩)
  intro hJ2_5_10
  refine join_ (σ := Value × Value × Nat) 4 #[true, true, true, true, true, false, true, true, false, false, true, false] (fun s_ => [(9, s_.1), (14, s_.2.1), (6, .pointer (some ⟨s_.2.2, 0, none⟩))]) (fun s_ w' => (w'.cell? ⟨gb204, 0, none⟩ = some (.int .i64 a1_0) ∧ w'.cell? ⟨gb204, 1, none⟩ = some (.slice A1_1 l1_1.length c1_1)) ∧ (Kd.R k81 81 w' w.heap.size (fun k_ => some k_ ≠ (s_.2.1 : Value).ownBlock) s_.1 y206) ∧ (Kd.R k81 81 w' w.heap.size (fun k_ => some k_ ≠ (s_.1 : Value).ownBlock) s_.2.1 y212) ∧ (w'.heap[gb204]? = some (.cells #[.int .i64 a1_0, .slice A1_1 l1_1.length c1_1] 83 (0, 0))) ∧ (w'.heap[gb205]? = some (.cells #[.int .i64 0, .slice none 0 0] 83 (0, 0))) ∧ (w'.heap[s_.2.2]? = some (.cells #[.int .i64 0, .slice none 0 0] 83 (0, 0))) ∧ (w.heap.size ≤ s_.2.2) ∧ (w.heap.size ≤ s_.2.2) ∧ (gb204 ≠ s_.2.2) ∧ (s_.2.2 ≠ gb204) ∧ (gb205 ≠ s_.2.2) ∧ (s_.2.2 ≠ gb205) ∧ (Below w.heap.size w w')) ?_ ?_
  rotate_left
  rotate_left
  ·skip
   rintro ⟨v207, v213, gb218⟩ w17 ⟨hS_, h0_, h1_, h2_, h3_, h4_, h5_, h6_, h7_, h8_, h9_, h10_, h11_⟩
   have n0_ : Aside0 (Kd.R k81 81 w17 w.heap.size (fun k_ => some k_ ≠ (v213 : Value).ownBlock) v207 y206) := ⟨h0_⟩
   have n1_ : Aside0 (Kd.R k81 81 w17 w.heap.size (fun k_ => some k_ ≠ (v207 : Value).ownBlock) v213 y212) := ⟨h1_⟩
   have n2_ : Aside0 (w17.heap[gb204]? = some (.cells #[.int .i64 a1_0, .slice A1_1 l1_1.length c1_1] 83 (0, 0))) := ⟨h2_⟩
   have n3_ : Aside0 (w17.heap[gb205]? = some (.cells #[.int .i64 0, .slice none 0 0] 83 (0, 0))) := ⟨h3_⟩
   have n4_ : Aside0 (w17.heap[gb218]? = some (.cells #[.int .i64 0, .slice none 0 0] 83 (0, 0))) := ⟨h4_⟩
   have n5_ : Aside0 (w.heap.size ≤ gb218) := ⟨h5_⟩
   have n6_ : Aside0 (w.heap.size ≤ gb218) := ⟨h6_⟩
   have n7_ : Aside0 (gb204 ≠ gb218) := ⟨h7_⟩
   have n8_ : Aside0 (gb218 ≠ gb204) := ⟨h8_⟩
   have n9_ : Aside0 (gb205 ≠ gb218) := ⟨h9_⟩
   have n10_ : Aside0 (gb218 ≠ gb205) := ⟨h10_⟩
   have n11_ : Aside0 (Below w.heap.size w w17) := ⟨h11_⟩
   clear BK204
   clear BK205
   clear HB
   clear h0_ h1_ h2_ h3_ h4_ h5_ h6_ h7_ h8_ h9_ h10_ h11_
   have HO208 := n0_
   have HO214 := n1_
   have BK204 := n2_
   have BK205 := n3_
   have BK218 := n4_
   have GW218 := n5_
   have GE218 := n6_
   have NB204_218 := n7_
   have NB218_204 := n8_
   have NB205_218 := n9_
   have NB218_205 := n10_
   have HB := n11_
   clear n0_ n1_ n2_ n3_ n4_ n5_ n6_ n7_ n8_ n9_ n10_ n11_
   have hHeld : w17.cell? ⟨gb204, 0, none⟩ = some (.int .i64 a1_0) ∧ w17.cell? ⟨gb204, 1, none⟩ = some (.slice A1_1 l1_1.length c1_1) := hS_
   refine norm_ (a' := ?_) ?_ ?_
   rotate_left
   ·simp only [putAll, Act.put, z0_, z1_, z2_]
    rfl
   refine one_ (i := 5) (N := some 12) #[true, true, true, true, true, true, true, true, false, false, true, false] rfl rfl (one_of HT_.out (by kernel_rfl)) (by decide) (fun K hK => ?_)
   refine Kd.R_append_rows_step k81 (w0 := w) w.heap.size (by rfl) (.tmp 9) (.tmp 11) 56 81 (.agg #[(.int .i64 0), (.int .i64 0)]) 16 rfl Try.underlying56 info81 rfl (by decide) (by omega) v207 y206 l1_1 _ _ _ (fun k_ => some k_ ≠ (v213 : Value).ownBlock) (fun _ => False) rfl rfl ?aO ?aR (fun _ _ h => h) (fun _ h => h.elim) ?aF ?aB ?aS ?aL ?_
   (case aR => exact Kd.C_below (Kd.C_below HR1_1.out HB.out) lt_)
   (case aB => exact (at_ HB.out))
   (case aF => exact (fun k_ hk => Kd.fresh' (Kd.R_lt (Kd.R_below HO214.out lt_)) k_ hk))
   (case aO => exact (Kd.R_below HO208.out lt_))
   (case aS => exact (below_size (at_ HB.out)))
   (case aL => have := LMc3.out; omega)
   intro v210 w18 ho hb hg hat
   rw [← Ny209.out] at ho
   replace BK204 := Aside0.mk (blk_grown (g := gb204) (o := .cells #[.int .i64 a1_0, .slice A1_1 l1_1.length c1_1] 83 (0, 0)) (by (with_reducible repeat (first | refine blk_drewN ?_ _ | refine blk_drew ?_ | refine blk_alloc ?_ _)); exact BK204.out) hg (Kd.R_ne HO208.out BK204.out (by decide)))
   replace BK205 := Aside0.mk (blk_grown (g := gb205) (o := .cells #[.int .i64 0, .slice none 0 0] 83 (0, 0)) (by (with_reducible repeat (first | refine blk_drewN ?_ _ | refine blk_drew ?_ | refine blk_alloc ?_ _)); exact BK205.out) hg (Kd.R_ne HO208.out BK205.out (by decide)))
   replace HO214 := Aside0.mk (Kd.R_after (ok := (fun _ => True)) (Kd.R_below (Kd.R_mono HO214.out (fun _ hk => ⟨trivial, hk⟩)) lt_) hg hat)
   replace BK218 := Aside0.mk (blk_grown (g := gb218) (o := .cells #[.int .i64 0, .slice none 0 0] 83 (0, 0)) (by (with_reducible repeat (first | refine blk_drewN ?_ _ | refine blk_drew ?_ | refine blk_alloc ?_ _)); exact BK218.out) hg (Kd.R_ne HO208.out BK218.out (by decide)))
   replace HB := Aside0.mk (hb)
   have HO211 := Aside0.mk (ho)
   (try clear HO208)
   clear ho hb hg hat
   refine hK.out _ _ ⟨(blk_cell BK204.out 0).trans rfl, (blk_cell BK204.out 1).trans rfl⟩ (fun hHeld => ?_)
   clear hK K
   refine norm_ (a' := ?_) ?_ ?_
   rotate_left
   ·show Act.put _ (some 12) _ = _
    simp only [Act.put, z0_, z1_, z2_, i64_w, i32_w]
    rfl
   exact norm_ (by first | (simp only [putAll, Act.put, z0_, z1_, z2_]; done) | (simp only [putAll, Act.put, z0_, z1_, z2_]; rfl)) (hJ2_5_7_10 (v207, v210, v213, gb218) _ ⟨hHeld, (Kd.R_below HO211.out lt_), (Kd.R_below (Kd.R_mono HO214.out (fun _ hk => hk.2)) lt_), (by (with_reducible repeat (first | refine blk_drewN ?_ _ | refine blk_drew ?_ | refine blk_alloc ?_ _)); exact BK204.out), (by (with_reducible repeat (first | refine blk_drewN ?_ _ | refine blk_drew ?_ | refine blk_alloc ?_ _)); exact BK205.out), (by (with_reducible repeat (first | refine blk_drewN ?_ _ | refine blk_drew ?_ | refine blk_alloc ?_ _)); exact BK218.out), GW218.out, GE218.out, NB204_218.out, NB218_204.out, NB205_218.out, NB218_205.out, (at_ HB.out)⟩)
  intro hJ2_7_10
  refine join_ (σ := Value × Value) 5 #[true, true, true, true, true, true, true, false, false, false, false, false] (fun s_ => [(9, s_.1), (12, s_.2)]) (fun s_ w' => (w'.cell? ⟨gb204, 0, none⟩ = some (.int .i64 a1_0) ∧ w'.cell? ⟨gb204, 1, none⟩ = some (.slice A1_1 l1_1.length c1_1)) ∧ (Kd.R k81 81 w' w.heap.size (fun _ => True) s_.2 y209) ∧ (w'.heap[gb204]? = some (.cells #[.int .i64 a1_0, .slice A1_1 l1_1.length c1_1] 83 (0, 0))) ∧ (w'.heap[gb205]? = some (.cells #[.int .i64 0, .slice none 0 0] 83 (0, 0))) ∧ (Below w.heap.size w w')) ?_ ?_
  rotate_left
  rotate_left
  ·skip
   rintro ⟨v207, v210⟩ w15 ⟨hS_, h0_, h1_, h2_, h3_⟩
   have n0_ : Aside0 (Kd.R k81 81 w15 w.heap.size (fun _ => True) v210 y209) := ⟨h0_⟩
   have n1_ : Aside0 (w15.heap[gb204]? = some (.cells #[.int .i64 a1_0, .slice A1_1 l1_1.length c1_1] 83 (0, 0))) := ⟨h1_⟩
   have n2_ : Aside0 (w15.heap[gb205]? = some (.cells #[.int .i64 0, .slice none 0 0] 83 (0, 0))) := ⟨h2_⟩
   have n3_ : Aside0 (Below w.heap.size w w15) := ⟨h3_⟩
   clear BK204
   clear BK205
   clear HB
   clear h0_ h1_ h2_ h3_
   have HO211 := n0_
   have BK204 := n1_
   have BK205 := n2_
   have HB := n3_
   clear n0_ n1_ n2_ n3_
   have hHeld : w15.cell? ⟨gb204, 0, none⟩ = some (.int .i64 a1_0) ∧ w15.cell? ⟨gb204, 1, none⟩ = some (.slice A1_1 l1_1.length c1_1) := hS_
   refine norm_ (a' := ?_) ?_ ?_
   rotate_left
   ·simp only [putAll, Act.put, z0_, z1_, z2_]
    rfl
   refine two_ (i := 7) (j := 10) (Ni := some 14) (Nj := some 6) #[true, true, true, true, true, true, true, true, false, false, false, false] #[true, true, true, true, true, true, true, false, false, false, true, false] rfl rfl rfl rfl (two_of HT_.out (by kernel_rfl)) (by decide) (by decide) (fun K hK => ?_) (fun K hK => ?_)
   ·skip
    refine Kd.R_lit_step k81 _ 81 ?hg (N := 14) ?hd (xs := ([(⟨2, 0⟩ : S81)] : List (S81))) (inner := [.int .i64 2, .int .i64 0]) (ok := fun _ => True) (okp := fun _ => True) ?hr ?hp (fun _ hk => hk) trivial (Below.refl _ _) (Nat.le_refl _) (by simp) ?_; (case hd => rfl); (case hg => rfl); (case hr => first | (go_simp; done) | (go_simp; rfl)); (case hp => exact (Reps.c2 (show Kd.M k81 _ _ _ (⟨2, 0⟩ : S81) [.int .i64 2, .int .i64 0] from (k81_mkM _ _ _ (⟨2, 0⟩ : S81) )) (Reps.none _ _)))
    intro v213 w16 ho17 hb hg_ hnew_
    clear hg_ hnew_
    (first | rw [← Ny212.out] at ho17 | (simp only [Int.reduceToNat] at ho17; rw [← Ny212.out] at ho17))
    have HO214 := Aside0.mk (Kd.R_lower (Kd.R_new' ho17 (Kd.R_lt (Kd.R_below HO211.out lt_))) (below_size (at_ HB.out)))
    replace HO211 := Aside0.mk (Kd.R_elder' (Kd.R_below HO211.out lt_) (Kd.R_base ho17) hb)
    replace BK204 := Aside0.mk (blk_at BK204.out hb)
    replace BK205 := Aside0.mk (blk_at BK205.out hb)
    replace HB := Aside0.mk (below_step (at_ HB.out) hb)
    clear hb ho17
    refine hK.out _ _ ⟨(blk_cell BK204.out 0).trans rfl, (blk_cell BK204.out 1).trans rfl⟩ (fun hHeld => ?_)
    clear hK K
    refine norm_ (a' := ?_) ?_ ?_
    rotate_left
    ·show Act.put _ (some 14) _ = _
     simp only [Act.put, z0_, z1_, z2_, i64_w, i32_w]
     rfl
    exact norm_ (by first | (simp only [putAll, Act.put, z0_, z1_, z2_]; done) | (simp only [putAll, Act.put, z0_, z1_, z2_]; rfl)) (hJ2_5_7 (v207, v210, v213) _ ⟨hHeld, (Kd.R_below (Kd.R_mono HO211.out (fun _ hk => hk.2)) lt_), (Kd.R_below (Kd.R_mono HO214.out (fun _ hk => hk.2)) lt_), (by (with_reducible repeat (first | refine blk_drewN ?_ _ | refine blk_drew ?_ | refine blk_alloc ?_ _)); exact BK204.out), (by (with_reducible repeat (first | refine blk_drewN ?_ _ | refine blk_drew ?_ | refine blk_alloc ?_ _)); exact BK205.out), (at_ HB.out)⟩)
   skip
   refine box_step ?hg (N := 6) ?hd (cs := #[.int .i64 0, .slice none 0 0]) (t := 83) ?hr ?_; (case hd => rfl); (case hg => rfl); (case hr => first | (go_simp; done) | (go_simp; rfl))
   intro gb218 hg w16 hbox hb
   replace HO211 := Aside0.mk (Kd.R_below (Kd.R_below HO211.out lt_) hb)
   have BK218 := Aside0.mk (hbox)
   have GW218 := Aside0.mk ((by rw [hg]; exact (below_size (at_ HB.out)) : w.heap.size ≤ gb218))
   have GE218 := Aside0.mk ((by rw [hg]; exact (below_size (at_ HB.out)) : w.heap.size ≤ gb218))
   replace HB := Aside0.mk (below_step (at_ HB.out) hb)
   have NB204_218 := Aside0.mk ((by rw [hg]; exact Nat.ne_of_lt (blk_lt (g := gb204) (o := .cells #[.int .i64 a1_0, .slice A1_1 l1_1.length c1_1] 83 (0, 0)) (by (with_reducible repeat (first | refine blk_drewN ?_ _ | refine blk_drew ?_ | refine blk_alloc ?_ _)); exact BK204.out)) : gb204 ≠ gb218))
   have NB218_204 := Aside0.mk ((by rw [hg]; exact Nat.ne_of_gt (blk_lt (g := gb204) (o := .cells #[.int .i64 a1_0, .slice A1_1 l1_1.length c1_1] 83 (0, 0)) (by (with_reducible repeat (first | refine blk_drewN ?_ _ | refine blk_drew ?_ | refine blk_alloc ?_ _)); exact BK204.out)) : gb218 ≠ gb204))
   replace BK204 := Aside0.mk (blk_at BK204.out hb)
   have NB205_218 := Aside0.mk ((by rw [hg]; exact Nat.ne_of_lt (blk_lt (g := gb205) (o := .cells #[.int .i64 0, .slice none 0 0] 83 (0, 0)) (by (with_reducible repeat (first | refine blk_drewN ?_ _ | refine blk_drew ?_ | refine blk_alloc ?_ _)); exact BK205.out)) : gb205 ≠ gb218))
   have NB218_205 := Aside0.mk ((by rw [hg]; exact Nat.ne_of_gt (blk_lt (g := gb205) (o := .cells #[.int .i64 0, .slice none 0 0] 83 (0, 0)) (by (with_reducible repeat (first | refine blk_drewN ?_ _ | refine blk_drew ?_ | refine blk_alloc ?_ _)); exact BK205.out)) : gb218 ≠ gb205))
   replace BK205 := Aside0.mk (blk_at BK205.out hb)
   clear hb hbox hg
   refine hK.out _ _ ⟨(blk_cell BK204.out 0).trans rfl, (blk_cell BK204.out 1).trans rfl⟩ (fun hHeld => ?_)
   clear hK K
   refine norm_ (a' := ?_) ?_ ?_
   rotate_left
   ·show Act.put _ (some 6) _ = _
    simp only [Act.put, z0_, z1_, z2_, i64_w, i32_w]
    rfl
   exact norm_ (by first | (simp only [putAll, Act.put, z0_, z1_, z2_]; done) | (simp only [putAll, Act.put, z0_, z1_, z2_]; rfl)) (hJ2_5_10 (v207, v210, gb218) _ ⟨hHeld, (Kd.R_below HO211.out lt_), (by (with_reducible repeat (first | refine blk_drewN ?_ _ | refine blk_drew ?_ | refine blk_alloc ?_ _)); exact BK204.out), (by (with_reducible repeat (first | refine blk_drewN ?_ _ | refine blk_drew ?_ | refine blk_alloc ?_ _)); exact BK205.out), (by (with_reducible repeat (first | refine blk_drewN ?_ _ | refine blk_drew ?_ | refine blk_alloc ?_ _)); exact BK218.out), GW218.out, GE218.out, NB204_218.out, NB218_204.out, NB205_218.out, NB218_205.out, (at_ HB.out)⟩)
  intro hJ2_5
  refine join_ (σ := Value × Value) 5 #[true, true, true, true, true, false, true, true, false, false, false, false] (fun s_ => [(9, s_.1), (14, s_.2)]) (fun s_ w' => (w'.cell? ⟨gb204, 0, none⟩ = some (.int .i64 a1_0) ∧ w'.cell? ⟨gb204, 1, none⟩ = some (.slice A1_1 l1_1.length c1_1)) ∧ (Kd.R k81 81 w' w.heap.size (fun k_ => some k_ ≠ (s_.2 : Value).ownBlock) s_.1 y206) ∧ (Kd.R k81 81 w' w.heap.size (fun k_ => some k_ ≠ (s_.1 : Value).ownBlock) s_.2 y212) ∧ (w'.heap[gb204]? = some (.cells #[.int .i64 a1_0, .slice A1_1 l1_1.length c1_1] 83 (0, 0))) ∧ (w'.heap[gb205]? = some (.cells #[.int .i64 0, .slice none 0 0] 83 (0, 0))) ∧ (Below w.heap.size w w')) ?_ ?_
  rotate_left
  rotate_left
  ·skip
   rintro ⟨v207, v213⟩ w16 ⟨hS_, h0_, h1_, h2_, h3_, h4_⟩
   have n0_ : Aside0 (Kd.R k81 81 w16 w.heap.size (fun k_ => some k_ ≠ (v213 : Value).ownBlock) v207 y206) := ⟨h0_⟩
   have n1_ : Aside0 (Kd.R k81 81 w16 w.heap.size (fun k_ => some k_ ≠ (v207 : Value).ownBlock) v213 y212) := ⟨h1_⟩
   have n2_ : Aside0 (w16.heap[gb204]? = some (.cells #[.int .i64 a1_0, .slice A1_1 l1_1.length c1_1] 83 (0, 0))) := ⟨h2_⟩
   have n3_ : Aside0 (w16.heap[gb205]? = some (.cells #[.int .i64 0, .slice none 0 0] 83 (0, 0))) := ⟨h3_⟩
   have n4_ : Aside0 (Below w.heap.size w w16) := ⟨h4_⟩
   clear BK204
   clear BK205
   clear HB
   clear h0_ h1_ h2_ h3_ h4_
   have HO208 := n0_
   have HO214 := n1_
   have BK204 := n2_
   have BK205 := n3_
   have HB := n4_
   clear n0_ n1_ n2_ n3_ n4_
   have hHeld : w16.cell? ⟨gb204, 0, none⟩ = some (.int .i64 a1_0) ∧ w16.cell? ⟨gb204, 1, none⟩ = some (.slice A1_1 l1_1.length c1_1) := hS_
   refine norm_ (a' := ?_) ?_ ?_
   rotate_left
   ·simp only [putAll, Act.put, z0_, z1_, z2_]
    rfl
   refine two_ (i := 5) (j := 10) (Ni := some 12) (Nj := some 6) #[true, true, true, true, true, true, true, true, false, false, false, false] #[true, true, true, true, true, false, true, true, false, false, true, false] rfl rfl rfl rfl (two_of HT_.out (by kernel_rfl)) (by decide) (by decide) (fun K hK => ?_) (fun K hK => ?_)
   ·skip
    refine Kd.R_append_rows_step k81 (w0 := w) w.heap.size (by rfl) (.tmp 9) (.tmp 11) 56 81 (.agg #[(.int .i64 0), (.int .i64 0)]) 16 rfl Try.underlying56 info81 rfl (by decide) (by omega) v207 y206 l1_1 _ _ _ (fun k_ => some k_ ≠ (v213 : Value).ownBlock) (fun _ => False) rfl rfl ?aO ?aR (fun _ _ h => h) (fun _ h => h.elim) ?aF ?aB ?aS ?aL ?_
    (case aR => exact Kd.C_below (Kd.C_below HR1_1.out HB.out) lt_)
    (case aB => exact (at_ HB.out))
    (case aF => exact (fun k_ hk => Kd.fresh' (Kd.R_lt (Kd.R_below HO214.out lt_)) k_ hk))
    (case aO => exact (Kd.R_below HO208.out lt_))
    (case aS => exact (below_size (at_ HB.out)))
    (case aL => have := LMc3.out; omega)
    intro v210 w17 ho hb hg hat
    rw [← Ny209.out] at ho
    replace BK204 := Aside0.mk (blk_grown (g := gb204) (o := .cells #[.int .i64 a1_0, .slice A1_1 l1_1.length c1_1] 83 (0, 0)) (by (with_reducible repeat (first | refine blk_drewN ?_ _ | refine blk_drew ?_ | refine blk_alloc ?_ _)); exact BK204.out) hg (Kd.R_ne HO208.out BK204.out (by decide)))
    replace BK205 := Aside0.mk (blk_grown (g := gb205) (o := .cells #[.int .i64 0, .slice none 0 0] 83 (0, 0)) (by (with_reducible repeat (first | refine blk_drewN ?_ _ | refine blk_drew ?_ | refine blk_alloc ?_ _)); exact BK205.out) hg (Kd.R_ne HO208.out BK205.out (by decide)))
    replace HO214 := Aside0.mk (Kd.R_after (ok := (fun _ => True)) (Kd.R_below (Kd.R_mono HO214.out (fun _ hk => ⟨trivial, hk⟩)) lt_) hg hat)
    replace HB := Aside0.mk (hb)
    have HO211 := Aside0.mk (ho)
    (try clear HO208)
    clear ho hb hg hat
    refine hK.out _ _ ⟨(blk_cell BK204.out 0).trans rfl, (blk_cell BK204.out 1).trans rfl⟩ (fun hHeld => ?_)
    clear hK K
    refine norm_ (a' := ?_) ?_ ?_
    rotate_left
    ·show Act.put _ (some 12) _ = _
     simp only [Act.put, z0_, z1_, z2_, i64_w, i32_w]
     rfl
    exact norm_ (by first | (simp only [putAll, Act.put, z0_, z1_, z2_]; done) | (simp only [putAll, Act.put, z0_, z1_, z2_]; rfl)) (hJ2_5_7 (v207, v210, v213) _ ⟨hHeld, (Kd.R_below HO211.out lt_), (Kd.R_below (Kd.R_mono HO214.out (fun _ hk => hk.2)) lt_), (by (with_reducible repeat (first | refine blk_drewN ?_ _ | refine blk_drew ?_ | refine blk_alloc ?_ _)); exact BK204.out), (by (with_reducible repeat (first | refine blk_drewN ?_ _ | refine blk_drew ?_ | refine blk_alloc ?_ _)); exact BK205.out), (at_ HB.out)⟩)
   skip
   refine box_step ?hg (N := 6) ?hd (cs := #[.int .i64 0, .slice none 0 0]) (t := 83) ?hr ?_; (case hd => rfl); (case hg => rfl); (case hr => first | (go_simp; done) | (go_simp; rfl))
   intro gb218 hg w17 hbox hb
   replace HO208 := Aside0.mk (Kd.R_below (Kd.R_below HO208.out lt_) hb)
   replace HO214 := Aside0.mk (Kd.R_below (Kd.R_below HO214.out lt_) hb)
   have BK218 := Aside0.mk (hbox)
   have GW218 := Aside0.mk ((by rw [hg]; exact (below_size (at_ HB.out)) : w.heap.size ≤ gb218))
   have GE218 := Aside0.mk ((by rw [hg]; exact (below_size (at_ HB.out)) : w.heap.size ≤ gb218))
   replace HB := Aside0.mk (below_step (at_ HB.out) hb)
   have NB204_218 := Aside0.mk ((by rw [hg]; exact Nat.ne_of_lt (blk_lt (g := gb204) (o := .cells #[.int .i64 a1_0, .slice A1_1 l1_1.length c1_1] 83 (0, 0)) (by (with_reducible repeat (first | refine blk_drewN ?_ _ | refine blk_drew ?_ | refine blk_alloc ?_ _)); exact BK204.out)) : gb204 ≠ gb218))
   have NB218_204 := Aside0.mk ((by rw [hg]; exact Nat.ne_of_gt (blk_lt (g := gb204) (o := .cells #[.int .i64 a1_0, .slice A1_1 l1_1.length c1_1] 83 (0, 0)) (by (with_reducible repeat (first | refine blk_drewN ?_ _ | refine blk_drew ?_ | refine blk_alloc ?_ _)); exact BK204.out)) : gb218 ≠ gb204))
   replace BK204 := Aside0.mk (blk_at BK204.out hb)
   have NB205_218 := Aside0.mk ((by rw [hg]; exact Nat.ne_of_lt (blk_lt (g := gb205) (o := .cells #[.int .i64 0, .slice none 0 0] 83 (0, 0)) (by (with_reducible repeat (first | refine blk_drewN ?_ _ | refine blk_drew ?_ | refine blk_alloc ?_ _)); exact BK205.out)) : gb205 ≠ gb218))
   have NB218_205 := Aside0.mk ((by rw [hg]; exact Nat.ne_of_gt (blk_lt (g := gb205) (o := .cells #[.int .i64 0, .slice none 0 0] 83 (0, 0)) (by (with_reducible repeat (first | refine blk_drewN ?_ _ | refine blk_drew ?_ | refine blk_alloc ?_ _)); exact BK205.out)) : gb218 ≠ gb205))
   replace BK205 := Aside0.mk (blk_at BK205.out hb)
   clear hb hbox hg
   refine hK.out _ _ ⟨(blk_cell BK204.out 0).trans rfl, (blk_cell BK204.out 1).trans rfl⟩ (fun hHeld => ?_)
   clear hK K
   refine norm_ (a' := ?_) ?_ ?_
   rotate_left
   ·show Act.put _ (some 6) _ = _
    simp only [Act.put, z0_, z1_, z2_, i64_w, i32_w]
    rfl
   exact norm_ (by first | (simp only [putAll, Act.put, z0_, z1_, z2_]; done) | (simp only [putAll, Act.put, z0_, z1_, z2_]; rfl)) (hJ2_7_10 (v207, v213, gb218) _ ⟨hHeld, (Kd.R_below HO208.out lt_), (Kd.R_below HO214.out lt_), (by (with_reducible repeat (first | refine blk_drewN ?_ _ | refine blk_drew ?_ | refine blk_alloc ?_ _)); exact BK204.out), (by (with_reducible repeat (first | refine blk_drewN ?_ _ | refine blk_drew ?_ | refine blk_alloc ?_ _)); exact BK205.out), (by (with_reducible repeat (first | refine blk_drewN ?_ _ | refine blk_drew ?_ | refine blk_alloc ?_ _)); exact BK218.out), GW218.out, GE218.out, NB204_218.out, NB218_204.out, NB205_218.out, NB218_205.out, (at_ HB.out)⟩)
  intro hJ2_7
  refine join_ (σ := Value × Nat) 5 #[true, true, true, true, true, false, true, false, false, false, true, false] (fun s_ => [(9, s_.1), (6, .pointer (some ⟨s_.2, 0, none⟩))]) (fun s_ w' => (w'.cell? ⟨gb204, 0, none⟩ = some (.int .i64 a1_0) ∧ w'.cell? ⟨gb204, 1, none⟩ = some (.slice A1_1 l1_1.length c1_1)) ∧ (Kd.R k81 81 w' w.heap.size (fun _ => True) s_.1 y206) ∧ (w'.heap[gb204]? = some (.cells #[.int .i64 a1_0, .slice A1_1 l1_1.length c1_1] 83 (0, 0))) ∧ (w'.heap[gb205]? = some (.cells #[.int .i64 0, .slice none 0 0] 83 (0, 0))) ∧ (w'.heap[s_.2]? = some (.cells #[.int .i64 0, .slice none 0 0] 83 (0, 0))) ∧ (w.heap.size ≤ s_.2) ∧ (w.heap.size ≤ s_.2) ∧ (gb204 ≠ s_.2) ∧ (s_.2 ≠ gb204) ∧ (gb205 ≠ s_.2) ∧ (s_.2 ≠ gb205) ∧ (Below w.heap.size w w')) ?_ ?_
  rotate_left
  rotate_left
  ·skip
   rintro ⟨v207, gb218⟩ w15 ⟨hS_, h0_, h1_, h2_, h3_, h4_, h5_, h6_, h7_, h8_, h9_, h10_⟩
   have n0_ : Aside0 (Kd.R k81 81 w15 w.heap.size (fun _ => True) v207 y206) := ⟨h0_⟩
   have n1_ : Aside0 (w15.heap[gb204]? = some (.cells #[.int .i64 a1_0, .slice A1_1 l1_1.length c1_1] 83 (0, 0))) := ⟨h1_⟩
   have n2_ : Aside0 (w15.heap[gb205]? = some (.cells #[.int .i64 0, .slice none 0 0] 83 (0, 0))) := ⟨h2_⟩
   have n3_ : Aside0 (w15.heap[gb218]? = some (.cells #[.int .i64 0, .slice none 0 0] 83 (0, 0))) := ⟨h3_⟩
   have n4_ : Aside0 (w.heap.size ≤ gb218) := ⟨h4_⟩
   have n5_ : Aside0 (w.heap.size ≤ gb218) := ⟨h5_⟩
   have n6_ : Aside0 (gb204 ≠ gb218) := ⟨h6_⟩
   have n7_ : Aside0 (gb218 ≠ gb204) := ⟨h7_⟩
   have n8_ : Aside0 (gb205 ≠ gb218) := ⟨h8_⟩
   have n9_ : Aside0 (gb218 ≠ gb205) := ⟨h9_⟩
   have n10_ : Aside0 (Below w.heap.size w w15) := ⟨h10_⟩
   clear BK204
   clear BK205
   clear HB
   clear h0_ h1_ h2_ h3_ h4_ h5_ h6_ h7_ h8_ h9_ h10_
   have HO208 := n0_
   have BK204 := n1_
   have BK205 := n2_
   have BK218 := n3_
   have GW218 := n4_
   have GE218 := n5_
   have NB204_218 := n6_
   have NB218_204 := n7_
   have NB205_218 := n8_
   have NB218_205 := n9_
   have HB := n10_
   clear n0_ n1_ n2_ n3_ n4_ n5_ n6_ n7_ n8_ n9_ n10_
   have hHeld : w15.cell? ⟨gb204, 0, none⟩ = some (.int .i64 a1_0) ∧ w15.cell? ⟨gb204, 1, none⟩ = some (.slice A1_1 l1_1.length c1_1) := hS_
   refine norm_ (a' := ?_) ?_ ?_
   rotate_left
   ·simp only [putAll, Act.put, z0_, z1_, z2_]
    rfl
   refine two_ (i := 5) (j := 7) (Ni := some 12) (Nj := some 14) #[true, true, true, true, true, true, true, false, false, false, true, false] #[true, true, true, true, true, false, true, true, false, false, true, false] rfl rfl rfl rfl (two_of HT_.out (by kernel_rfl)) (by decide) (by decide) (fun K hK => ?_) (fun K hK => ?_)
   rotate_left
   ·skip
    refine Kd.R_lit_step k81 _ 81 ?hg (N := 14) ?hd (xs := ([(⟨2, 0⟩ : S81)] : List (S81))) (inner := [.int .i64 2, .int .i64 0]) (ok := fun _ => True) (okp := fun _ => True) ?hr ?hp (fun _ hk => hk) trivial (Below.refl _ _) (Nat.le_refl _) (by simp) ?_; (case hd => rfl); (case hg => rfl); (case hr => first | (go_simp; done) | (go_simp; rfl)); (case hp => exact (Reps.c2 (show Kd.M k81 _ _ _ (⟨2, 0⟩ : S81) [.int .i64 2, .int .i64 0] from (k81_mkM _ _ _ (⟨2, 0⟩ : S81) )) (Reps.none _ _)))
    intro v213 w16 ho17 hb hg_ hnew_
    clear hg_ hnew_
    (first | rw [← Ny212.out] at ho17 | (simp only [Int.reduceToNat] at ho17; rw [← Ny212.out] at ho17))
    have HO214 := Aside0.mk (Kd.R_lower (Kd.R_new' ho17 (Kd.R_lt (Kd.R_below HO208.out lt_))) (below_size (at_ HB.out)))
    replace HO208 := Aside0.mk (Kd.R_elder' (Kd.R_below HO208.out lt_) (Kd.R_base ho17) hb)
    replace BK204 := Aside0.mk (blk_at BK204.out hb)
    replace BK205 := Aside0.mk (blk_at BK205.out hb)
    replace BK218 := Aside0.mk (blk_at BK218.out hb)
    replace HB := Aside0.mk (below_step (at_ HB.out) hb)
    clear hb ho17
    refine hK.out _ _ ⟨(blk_cell BK204.out 0).trans rfl, (blk_cell BK204.out 1).trans rfl⟩ (fun hHeld => ?_)
    clear hK K
    refine norm_ (a' := ?_) ?_ ?_
    rotate_left
    ·show Act.put _ (some 14) _ = _
     simp only [Act.put, z0_, z1_, z2_, i64_w, i32_w]
     rfl
    exact norm_ (by first | (simp only [putAll, Act.put, z0_, z1_, z2_]; done) | (simp only [putAll, Act.put, z0_, z1_, z2_]; rfl)) (hJ2_7_10 (v207, v213, gb218) _ ⟨hHeld, (Kd.R_below (Kd.R_mono HO208.out (fun _ hk => hk.2)) lt_), (Kd.R_below (Kd.R_mono HO214.out (fun _ hk => hk.2)) lt_), (by (with_reducible repeat (first | refine blk_drewN ?_ _ | refine blk_drew ?_ | refine blk_alloc ?_ _)); exact BK204.out), (by (with_reducible repeat (first | refine blk_drewN ?_ _ | refine blk_drew ?_ | refine blk_alloc ?_ _)); exact BK205.out), (by (with_reducible repeat (first | refine blk_drewN ?_ _ | refine blk_drew ?_ | refine blk_alloc ?_ _)); exact BK218.out), GW218.out, GE218.out, NB204_218.out, NB218_204.out, NB205_218.out, NB218_205.out, (at_ HB.out)⟩)
   skip
   refine Kd.R_append_rows_step k81 (w0 := w) w.heap.size (by rfl) (.tmp 9) (.tmp 11) 56 81 (.agg #[(.int .i64 0), (.int .i64 0)]) 16 rfl Try.underlying56 info81 rfl (by decide) (by omega) v207 y206 l1_1 _ _ _ (fun _ => True) (fun _ => False) rfl rfl ?aO ?aR (fun _ _ h => h) (fun _ h => h.elim) ?aF ?aB ?aS ?aL ?_
   (case aR => exact Kd.C_below (Kd.C_below HR1_1.out HB.out) lt_)
   (case aB => exact (at_ HB.out))
   (case aF => exact (fun _ _ => trivial))
   (case aO => exact (Kd.R_below HO208.out lt_))
   (case aS => exact (below_size (at_ HB.out)))
   (case aL => have := LMc3.out; omega)
   intro v210 w16 ho hb hg hat
   rw [← Ny209.out] at ho
   replace BK204 := Aside0.mk (blk_grown (g := gb204) (o := .cells #[.int .i64 a1_0, .slice A1_1 l1_1.length c1_1] 83 (0, 0)) (by (with_reducible repeat (first | refine blk_drewN ?_ _ | refine blk_drew ?_ | refine blk_alloc ?_ _)); exact BK204.out) hg (Kd.R_ne HO208.out BK204.out (by decide)))
   replace BK205 := Aside0.mk (blk_grown (g := gb205) (o := .cells #[.int .i64 0, .slice none 0 0] 83 (0, 0)) (by (with_reducible repeat (first | refine blk_drewN ?_ _ | refine blk_drew ?_ | refine blk_alloc ?_ _)); exact BK205.out) hg (Kd.R_ne HO208.out BK205.out (by decide)))
   replace BK218 := Aside0.mk (blk_grown (g := gb218) (o := .cells #[.int .i64 0, .slice none 0 0] 83 (0, 0)) (by (with_reducible repeat (first | refine blk_drewN ?_ _ | refine blk_drew ?_ | refine blk_alloc ?_ _)); exact BK218.out) hg (Kd.R_ne HO208.out BK218.out (by decide)))
   replace HB := Aside0.mk (hb)
   have HO211 := Aside0.mk (ho)
   (try clear HO208)
   clear ho hb hg hat
   refine hK.out _ _ ⟨(blk_cell BK204.out 0).trans rfl, (blk_cell BK204.out 1).trans rfl⟩ (fun hHeld => ?_)
   clear hK K
   refine norm_ (a' := ?_) ?_ ?_
   rotate_left
   ·show Act.put _ (some 12) _ = _
    simp only [Act.put, z0_, z1_, z2_, i64_w, i32_w]
    rfl
   exact norm_ (by first | (simp only [putAll, Act.put, z0_, z1_, z2_]; done) | (simp only [putAll, Act.put, z0_, z1_, z2_]; rfl)) (hJ2_5_10 (v207, v210, gb218) _ ⟨hHeld, (Kd.R_below HO211.out lt_), (by (with_reducible repeat (first | refine blk_drewN ?_ _ | refine blk_drew ?_ | refine blk_alloc ?_ _)); exact BK204.out), (by (with_reducible repeat (first | refine blk_drewN ?_ _ | refine blk_drew ?_ | refine blk_alloc ?_ _)); exact BK205.out), (by (with_reducible repeat (first | refine blk_drewN ?_ _ | refine blk_drew ?_ | refine blk_alloc ?_ _)); exact BK218.out), GW218.out, GE218.out, NB204_218.out, NB218_204.out, NB205_218.out, NB218_205.out, (at_ HB.out)⟩)
  intro hJ2_10
  refine join_ (σ := Value × Nat) 5 #[true, true, false, true, true, false, true, true, false, false, true, false] (fun s_ => [(14, s_.1), (6, .pointer (some ⟨s_.2, 0, none⟩))]) (fun s_ w' => (w'.cell? ⟨gb204, 0, none⟩ = some (.int .i64 a1_0) ∧ w'.cell? ⟨gb204, 1, none⟩ = some (.slice A1_1 l1_1.length c1_1)) ∧ (Kd.R k81 81 w' w.heap.size (fun _ => True) s_.1 y212) ∧ (w'.heap[gb204]? = some (.cells #[.int .i64 a1_0, .slice A1_1 l1_1.length c1_1] 83 (0, 0))) ∧ (w'.heap[gb205]? = some (.cells #[.int .i64 0, .slice none 0 0] 83 (0, 0))) ∧ (w'.heap[s_.2]? = some (.cells #[.int .i64 0, .slice none 0 0] 83 (0, 0))) ∧ (w.heap.size ≤ s_.2) ∧ (w.heap.size ≤ s_.2) ∧ (gb204 ≠ s_.2) ∧ (s_.2 ≠ gb204) ∧ (gb205 ≠ s_.2) ∧ (s_.2 ≠ gb205) ∧ (Below w.heap.size w w')) ?_ ?_
  rotate_left
  rotate_left
  ·skip
   rintro ⟨v213, gb218⟩ w15 ⟨hS_, h0_, h1_, h2_, h3_, h4_, h5_, h6_, h7_, h8_, h9_, h10_⟩
   have n0_ : Aside0 (Kd.R k81 81 w15 w.heap.size (fun _ => True) v213 y212) := ⟨h0_⟩
   have n1_ : Aside0 (w15.heap[gb204]? = some (.cells #[.int .i64 a1_0, .slice A1_1 l1_1.length c1_1] 83 (0, 0))) := ⟨h1_⟩
   have n2_ : Aside0 (w15.heap[gb205]? = some (.cells #[.int .i64 0, .slice none 0 0] 83 (0, 0))) := ⟨h2_⟩
   have n3_ : Aside0 (w15.heap[gb218]? = some (.cells #[.int .i64 0, .slice none 0 0] 83 (0, 0))) := ⟨h3_⟩
   have n4_ : Aside0 (w.heap.size ≤ gb218) := ⟨h4_⟩
   have n5_ : Aside0 (w.heap.size ≤ gb218) := ⟨h5_⟩
   have n6_ : Aside0 (gb204 ≠ gb218) := ⟨h6_⟩
   have n7_ : Aside0 (gb218 ≠ gb204) := ⟨h7_⟩
   have n8_ : Aside0 (gb205 ≠ gb218) := ⟨h8_⟩
   have n9_ : Aside0 (gb218 ≠ gb205) := ⟨h9_⟩
   have n10_ : Aside0 (Below w.heap.size w w15) := ⟨h10_⟩
   clear BK204
   clear BK205
   clear HB
   clear h0_ h1_ h2_ h3_ h4_ h5_ h6_ h7_ h8_ h9_ h10_
   have HO214 := n0_
   have BK204 := n1_
   have BK205 := n2_
   have BK218 := n3_
   have GW218 := n4_
   have GE218 := n5_
   have NB204_218 := n6_
   have NB218_204 := n7_
   have NB205_218 := n8_
   have NB218_205 := n9_
   have HB := n10_
   clear n0_ n1_ n2_ n3_ n4_ n5_ n6_ n7_ n8_ n9_ n10_
   have hHeld : w15.cell? ⟨gb204, 0, none⟩ = some (.int .i64 a1_0) ∧ w15.cell? ⟨gb204, 1, none⟩ = some (.slice A1_1 l1_1.length c1_1) := hS_
   refine norm_ (a' := ?_) ?_ ?_
   rotate_left
   ·simp only [putAll, Act.put, z0_, z1_, z2_]
    rfl
   refine one_ (i := 2) (N := some 9) #[true, true, true, true, true, false, true, true, false, false, true, false] rfl rfl (one_of HT_.out (by kernel_rfl)) (by decide) (fun K hK => ?_)
   refine Kd.R_lit_step k81 _ 81 ?hg (N := 9) ?hd (xs := ([] : List (S81))) (inner := []) (ok := fun _ => True) (okp := fun _ => True) ?hr ?hp (fun _ hk => hk) trivial (Below.refl _ _) (Nat.le_refl _) (by simp) ?_; (case hd => rfl); (case hg => rfl); (case hr => first | (go_simp; done) | (go_simp; rfl)); (case hp => exact (Reps.none _ _))
   intro v207 w16 ho17 hb hg_ hnew_
   clear hg_ hnew_
   (first | rw [← Ny206.out] at ho17 | (simp only [Int.reduceToNat] at ho17; rw [← Ny206.out] at ho17))
   have HO208 := Aside0.mk (Kd.R_lower (Kd.R_new' ho17 (Kd.R_lt (Kd.R_below HO214.out lt_))) (below_size (at_ HB.out)))
   replace HO214 := Aside0.mk (Kd.R_elder' (Kd.R_below HO214.out lt_) (Kd.R_base ho17) hb)
   replace BK204 := Aside0.mk (blk_at BK204.out hb)
   replace BK205 := Aside0.mk (blk_at BK205.out hb)
   replace BK218 := Aside0.mk (blk_at BK218.out hb)
   replace HB := Aside0.mk (below_step (at_ HB.out) hb)
   clear hb ho17
   refine hK.out _ _ ⟨(blk_cell BK204.out 0).trans rfl, (blk_cell BK204.out 1).trans rfl⟩ (fun hHeld => ?_)
   clear hK K
   refine norm_ (a' := ?_) ?_ ?_
   rotate_left
   ·show Act.put _ (some 9) _ = _
    simp only [Act.put, z0_, z1_, z2_, i64_w, i32_w]
    rfl
   exact norm_ (by first | (simp only [putAll, Act.put, z0_, z1_, z2_]; done) | (simp only [putAll, Act.put, z0_, z1_, z2_]; rfl)) (hJ2_7_10 (v207, v213, gb218) _ ⟨hHeld, (Kd.R_below (Kd.R_mono HO208.out (fun _ hk => hk.2)) lt_), (Kd.R_below (Kd.R_mono HO214.out (fun _ hk => hk.2)) lt_), (by (with_reducible repeat (first | refine blk_drewN ?_ _ | refine blk_drew ?_ | refine blk_alloc ?_ _)); exact BK204.out), (by (with_reducible repeat (first | refine blk_drewN ?_ _ | refine blk_drew ?_ | refine blk_alloc ?_ _)); exact BK205.out), (by (with_reducible repeat (first | refine blk_drewN ?_ _ | refine blk_drew ?_ | refine blk_alloc ?_ _)); exact BK218.out), GW218.out, GE218.out, NB204_218.out, NB218_204.out, NB205_218.out, NB218_205.out, (at_ HB.out)⟩)
  intro hJ7_10
  refine join_ (σ := Value) 6 #[true, true, true, true, true, false, true, false, false, false, false, false] (fun s_ => [(9, s_)]) (fun s_ w' => (w'.cell? ⟨gb204, 0, none⟩ = some (.int .i64 a1_0) ∧ w'.cell? ⟨gb204, 1, none⟩ = some (.slice A1_1 l1_1.length c1_1)) ∧ (Kd.R k81 81 w' w.heap.size (fun _ => True) s_ y206) ∧ (w'.heap[gb204]? = some (.cells #[.int .i64 a1_0, .slice A1_1 l1_1.length c1_1] 83 (0, 0))) ∧ (w'.heap[gb205]? = some (.cells #[.int .i64 0, .slice none 0 0] 83 (0, 0))) ∧ (Below w.heap.size w w')) ?_ ?_
  rotate_left
  rotate_left
  ·skip
   rintro v207 w14 ⟨hS_, h0_, h1_, h2_, h3_⟩
   have n0_ : Aside0 (Kd.R k81 81 w14 w.heap.size (fun _ => True) v207 y206) := ⟨h0_⟩
   have n1_ : Aside0 (w14.heap[gb204]? = some (.cells #[.int .i64 a1_0, .slice A1_1 l1_1.length c1_1] 83 (0, 0))) := ⟨h1_⟩
   have n2_ : Aside0 (w14.heap[gb205]? = some (.cells #[.int .i64 0, .slice none 0 0] 83 (0, 0))) := ⟨h2_⟩
   have n3_ : Aside0 (Below w.heap.size w w14) := ⟨h3_⟩
   clear BK204
   clear BK205
   clear HB
   clear h0_ h1_ h2_ h3_
   have HO208 := n0_
   have BK204 := n1_
   have BK205 := n2_
   have HB := n3_
   clear n0_ n1_ n2_ n3_
   have hHeld : w14.cell? ⟨gb204, 0, none⟩ = some (.int .i64 a1_0) ∧ w14.cell? ⟨gb204, 1, none⟩ = some (.slice A1_1 l1_1.length c1_1) := hS_
   refine norm_ (a' := ?_) ?_ ?_
   rotate_left
   ·simp only [putAll, Act.put, z0_, z1_, z2_]
    rfl
   refine three_ (i := 5) (j := 7) (k := 10) (Ni := some 12) (Nj := some 14) (Nk := some 6) #[true, true, true, true, true, true, true, false, false, false, false, false] #[true, true, true, true, true, false, true, true, false, false, false, false] #[true, true, true, true, true, false, true, false, false, false, true, false] rfl rfl rfl rfl rfl rfl (three_of HT_.out (by kernel_rfl)) (by decide) (by decide) (by decide) (fun K hK => ?_) (fun K hK => ?_) (fun K hK => ?_)
   ·skip
    refine Kd.R_append_rows_step k81 (w0 := w) w.heap.size (by rfl) (.tmp 9) (.tmp 11) 56 81 (.agg #[(.int .i64 0), (.int .i64 0)]) 16 rfl Try.underlying56 info81 rfl (by decide) (by omega) v207 y206 l1_1 _ _ _ (fun _ => True) (fun _ => False) rfl rfl ?aO ?aR (fun _ _ h => h) (fun _ h => h.elim) ?aF ?aB ?aS ?aL ?_
    (case aR => exact Kd.C_below (Kd.C_below HR1_1.out HB.out) lt_)
    (case aB => exact (at_ HB.out))
    (case aF => exact (fun _ _ => trivial))
    (case aO => exact (Kd.R_below HO208.out lt_))
    (case aS => exact (below_size (at_ HB.out)))
    (case aL => have := LMc3.out; omega)
    intro v210 w15 ho hb hg hat
    rw [← Ny209.out] at ho
    replace BK204 := Aside0.mk (blk_grown (g := gb204) (o := .cells #[.int .i64 a1_0, .slice A1_1 l1_1.length c1_1] 83 (0, 0)) (by (with_reducible repeat (first | refine blk_drewN ?_ _ | refine blk_drew ?_ | refine blk_alloc ?_ _)); exact BK204.out) hg (Kd.R_ne HO208.out BK204.out (by decide)))
    replace BK205 := Aside0.mk (blk_grown (g := gb205) (o := .cells #[.int .i64 0, .slice none 0 0] 83 (0, 0)) (by (with_reducible repeat (first | refine blk_drewN ?_ _ | refine blk_drew ?_ | refine blk_alloc ?_ _)); exact BK205.out) hg (Kd.R_ne HO208.out BK205.out (by decide)))
    replace HB := Aside0.mk (hb)
    have HO211 := Aside0.mk (ho)
    (try clear HO208)
    clear ho hb hg hat
    refine hK.out _ _ ⟨(blk_cell BK204.out 0).trans rfl, (blk_cell BK204.out 1).trans rfl⟩ (fun hHeld => ?_)
    clear hK K
    refine norm_ (a' := ?_) ?_ ?_
    rotate_left
    ·show Act.put _ (some 12) _ = _
     simp only [Act.put, z0_, z1_, z2_, i64_w, i32_w]
     rfl
    exact norm_ (by first | (simp only [putAll, Act.put, z0_, z1_, z2_]; done) | (simp only [putAll, Act.put, z0_, z1_, z2_]; rfl)) (hJ2_5 (v207, v210) _ ⟨hHeld, (Kd.R_below HO211.out lt_), (by (with_reducible repeat (first | refine blk_drewN ?_ _ | refine blk_drew ?_ | refine blk_alloc ?_ _)); exact BK204.out), (by (with_reducible repeat (first | refine blk_drewN ?_ _ | refine blk_drew ?_ | refine blk_alloc ?_ _)); exact BK205.out), (at_ HB.out)⟩)
   ·skip
    refine Kd.R_lit_step k81 _ 81 ?hg (N := 14) ?hd (xs := ([(⟨2, 0⟩ : S81)] : List (S81))) (inner := [.int .i64 2, .int .i64 0]) (ok := fun _ => True) (okp := fun _ => True) ?hr ?hp (fun _ hk => hk) trivial (Below.refl _ _) (Nat.le_refl _) (by simp) ?_; (case hd => rfl); (case hg => rfl); (case hr => first | (go_simp; done) | (go_simp; rfl)); (case hp => exact (Reps.c2 (show Kd.M k81 _ _ _ (⟨2, 0⟩ : S81) [.int .i64 2, .int .i64 0] from (k81_mkM _ _ _ (⟨2, 0⟩ : S81) )) (Reps.none _ _)))
    intro v213 w15 ho16 hb hg_ hnew_
    clear hg_ hnew_
    (first | rw [← Ny212.out] at ho16 | (simp only [Int.reduceToNat] at ho16; rw [← Ny212.out] at ho16))
    have HO214 := Aside0.mk (Kd.R_lower (Kd.R_new' ho16 (Kd.R_lt (Kd.R_below HO208.out lt_))) (below_size (at_ HB.out)))
    replace HO208 := Aside0.mk (Kd.R_elder' (Kd.R_below HO208.out lt_) (Kd.R_base ho16) hb)
    replace BK204 := Aside0.mk (blk_at BK204.out hb)
    replace BK205 := Aside0.mk (blk_at BK205.out hb)
    replace HB := Aside0.mk (below_step (at_ HB.out) hb)
    clear hb ho16
    refine hK.out _ _ ⟨(blk_cell BK204.out 0).trans rfl, (blk_cell BK204.out 1).trans rfl⟩ (fun hHeld => ?_)
    clear hK K
    refine norm_ (a' := ?_) ?_ ?_
    rotate_left
    ·show Act.put _ (some 14) _ = _
     simp only [Act.put, z0_, z1_, z2_, i64_w, i32_w]
     rfl
    exact norm_ (by first | (simp only [putAll, Act.put, z0_, z1_, z2_]; done) | (simp only [putAll, Act.put, z0_, z1_, z2_]; rfl)) (hJ2_7 (v207, v213) _ ⟨hHeld, (Kd.R_below (Kd.R_mono HO208.out (fun _ hk => hk.2)) lt_), (Kd.R_below (Kd.R_mono HO214.out (fun _ hk => hk.2)) lt_), (by (with_reducible repeat (first | refine blk_drewN ?_ _ | refine blk_drew ?_ | refine blk_alloc ?_ _)); exact BK204.out), (by (with_reducible repeat (first | refine blk_drewN ?_ _ | refine blk_drew ?_ | refine blk_alloc ?_ _)); exact BK205.out), (at_ HB.out)⟩)
   skip
   refine box_step ?hg (N := 6) ?hd (cs := #[.int .i64 0, .slice none 0 0]) (t := 83) ?hr ?_; (case hd => rfl); (case hg => rfl); (case hr => first | (go_simp; done) | (go_simp; rfl))
   intro gb218 hg w15 hbox hb
   replace HO208 := Aside0.mk (Kd.R_below (Kd.R_below HO208.out lt_) hb)
   have BK218 := Aside0.mk (hbox)
   have GW218 := Aside0.mk ((by rw [hg]; exact (below_size (at_ HB.out)) : w.heap.size ≤ gb218))
   have GE218 := Aside0.mk ((by rw [hg]; exact (below_size (at_ HB.out)) : w.heap.size ≤ gb218))
   replace HB := Aside0.mk (below_step (at_ HB.out) hb)
   have NB204_218 := Aside0.mk ((by rw [hg]; exact Nat.ne_of_lt (blk_lt (g := gb204) (o := .cells #[.int .i64 a1_0, .slice A1_1 l1_1.length c1_1] 83 (0, 0)) (by (with_reducible repeat (first | refine blk_drewN ?_ _ | refine blk_drew ?_ | refine blk_alloc ?_ _)); exact BK204.out)) : gb204 ≠ gb218))
   have NB218_204 := Aside0.mk ((by rw [hg]; exact Nat.ne_of_gt (blk_lt (g := gb204) (o := .cells #[.int .i64 a1_0, .slice A1_1 l1_1.length c1_1] 83 (0, 0)) (by (with_reducible repeat (first | refine blk_drewN ?_ _ | refine blk_drew ?_ | refine blk_alloc ?_ _)); exact BK204.out)) : gb218 ≠ gb204))
   replace BK204 := Aside0.mk (blk_at BK204.out hb)
   have NB205_218 := Aside0.mk ((by rw [hg]; exact Nat.ne_of_lt (blk_lt (g := gb205) (o := .cells #[.int .i64 0, .slice none 0 0] 83 (0, 0)) (by (with_reducible repeat (first | refine blk_drewN ?_ _ | refine blk_drew ?_ | refine blk_alloc ?_ _)); exact BK205.out)) : gb205 ≠ gb218))
   have NB218_205 := Aside0.mk ((by rw [hg]; exact Nat.ne_of_gt (blk_lt (g := gb205) (o := .cells #[.int .i64 0, .slice none 0 0] 83 (0, 0)) (by (with_reducible repeat (first | refine blk_drewN ?_ _ | refine blk_drew ?_ | refine blk_alloc ?_ _)); exact BK205.out)) : gb218 ≠ gb205))
   replace BK205 := Aside0.mk (blk_at BK205.out hb)
   clear hb hbox hg
   refine hK.out _ _ ⟨(blk_cell BK204.out 0).trans rfl, (blk_cell BK204.out 1).trans rfl⟩ (fun hHeld => ?_)
   clear hK K
   refine norm_ (a' := ?_) ?_ ?_
   rotate_left
   ·show Act.put _ (some 6) _ = _
    simp only [Act.put, z0_, z1_, z2_, i64_w, i32_w]
    rfl
   exact norm_ (by first | (simp only [putAll, Act.put, z0_, z1_, z2_]; done) | (simp only [putAll, Act.put, z0_, z1_, z2_]; rfl)) (hJ2_10 (v207, gb218) _ ⟨hHeld, (Kd.R_below HO208.out lt_), (by (with_reducible repeat (first | refine blk_drewN ?_ _ | refine blk_drew ?_ | refine blk_alloc ?_ _)); exact BK204.out), (by (with_reducible repeat (first | refine blk_drewN ?_ _ | refine blk_drew ?_ | refine blk_alloc ?_ _)); exact BK205.out), (by (with_reducible repeat (first | refine blk_drewN ?_ _ | refine blk_drew ?_ | refine blk_alloc ?_ _)); exact BK218.out), GW218.out, GE218.out, NB204_218.out, NB218_204.out, NB205_218.out, NB218_205.out, (at_ HB.out)⟩)
  intro hJ2
  refine join_ (σ := Value) 6 #[true, true, false, true, true, false, true, true, false, false, false, false] (fun s_ => [(14, s_)]) (fun s_ w' => (w'.cell? ⟨gb204, 0, none⟩ = some (.int .i64 a1_0) ∧ w'.cell? ⟨gb204, 1, none⟩ = some (.slice A1_1 l1_1.length c1_1)) ∧ (Kd.R k81 81 w' w.heap.size (fun _ => True) s_ y212) ∧ (w'.heap[gb204]? = some (.cells #[.int .i64 a1_0, .slice A1_1 l1_1.length c1_1] 83 (0, 0))) ∧ (w'.heap[gb205]? = some (.cells #[.int .i64 0, .slice none 0 0] 83 (0, 0))) ∧ (Below w.heap.size w w')) ?_ ?_
  rotate_left
  rotate_left
  ·skip
   rintro v213 w14 ⟨hS_, h0_, h1_, h2_, h3_⟩
   have n0_ : Aside0 (Kd.R k81 81 w14 w.heap.size (fun _ => True) v213 y212) := ⟨h0_⟩
   have n1_ : Aside0 (w14.heap[gb204]? = some (.cells #[.int .i64 a1_0, .slice A1_1 l1_1.length c1_1] 83 (0, 0))) := ⟨h1_⟩
   have n2_ : Aside0 (w14.heap[gb205]? = some (.cells #[.int .i64 0, .slice none 0 0] 83 (0, 0))) := ⟨h2_⟩
   have n3_ : Aside0 (Below w.heap.size w w14) := ⟨h3_⟩
   clear BK204
   clear BK205
   clear HB
   clear h0_ h1_ h2_ h3_
   have HO214 := n0_
   have BK204 := n1_
   have BK205 := n2_
   have HB := n3_
   clear n0_ n1_ n2_ n3_
   have hHeld : w14.cell? ⟨gb204, 0, none⟩ = some (.int .i64 a1_0) ∧ w14.cell? ⟨gb204, 1, none⟩ = some (.slice A1_1 l1_1.length c1_1) := hS_
   refine norm_ (a' := ?_) ?_ ?_
   rotate_left
   ·simp only [putAll, Act.put, z0_, z1_, z2_]
    rfl
   refine two_ (i := 2) (j := 10) (Ni := some 9) (Nj := some 6) #[true, true, true, true, true, false, true, true, false, false, false, false] #[true, true, false, true, true, false, true, true, false, false, true, false] rfl rfl rfl rfl (two_of HT_.out (by kernel_rfl)) (by decide) (by decide) (fun K hK => ?_) (fun K hK => ?_)
   ·skip
    refine Kd.R_lit_step k81 _ 81 ?hg (N := 9) ?hd (xs := ([] : List (S81))) (inner := []) (ok := fun _ => True) (okp := fun _ => True) ?hr ?hp (fun _ hk => hk) trivial (Below.refl _ _) (Nat.le_refl _) (by simp) ?_; (case hd => rfl); (case hg => rfl); (case hr => first | (go_simp; done) | (go_simp; rfl)); (case hp => exact (Reps.none _ _))
    intro v207 w15 ho16 hb hg_ hnew_
    clear hg_ hnew_
    (first | rw [← Ny206.out] at ho16 | (simp only [Int.reduceToNat] at ho16; rw [← Ny206.out] at ho16))
    have HO208 := Aside0.mk (Kd.R_lower (Kd.R_new' ho16 (Kd.R_lt (Kd.R_below HO214.out lt_))) (below_size (at_ HB.out)))
    replace HO214 := Aside0.mk (Kd.R_elder' (Kd.R_below HO214.out lt_) (Kd.R_base ho16) hb)
    replace BK204 := Aside0.mk (blk_at BK204.out hb)
    replace BK205 := Aside0.mk (blk_at BK205.out hb)
    replace HB := Aside0.mk (below_step (at_ HB.out) hb)
    clear hb ho16
    refine hK.out _ _ ⟨(blk_cell BK204.out 0).trans rfl, (blk_cell BK204.out 1).trans rfl⟩ (fun hHeld => ?_)
    clear hK K
    refine norm_ (a' := ?_) ?_ ?_
    rotate_left
    ·show Act.put _ (some 9) _ = _
     simp only [Act.put, z0_, z1_, z2_, i64_w, i32_w]
     rfl
    exact norm_ (by first | (simp only [putAll, Act.put, z0_, z1_, z2_]; done) | (simp only [putAll, Act.put, z0_, z1_, z2_]; rfl)) (hJ2_7 (v207, v213) _ ⟨hHeld, (Kd.R_below (Kd.R_mono HO208.out (fun _ hk => hk.2)) lt_), (Kd.R_below (Kd.R_mono HO214.out (fun _ hk => hk.2)) lt_), (by (with_reducible repeat (first | refine blk_drewN ?_ _ | refine blk_drew ?_ | refine blk_alloc ?_ _)); exact BK204.out), (by (with_reducible repeat (first | refine blk_drewN ?_ _ | refine blk_drew ?_ | refine blk_alloc ?_ _)); exact BK205.out), (at_ HB.out)⟩)
   skip
   refine box_step ?hg (N := 6) ?hd (cs := #[.int .i64 0, .slice none 0 0]) (t := 83) ?hr ?_; (case hd => rfl); (case hg => rfl); (case hr => first | (go_simp; done) | (go_simp; rfl))
   intro gb218 hg w15 hbox hb
   replace HO214 := Aside0.mk (Kd.R_below (Kd.R_below HO214.out lt_) hb)
   have BK218 := Aside0.mk (hbox)
   have GW218 := Aside0.mk ((by rw [hg]; exact (below_size (at_ HB.out)) : w.heap.size ≤ gb218))
   have GE218 := Aside0.mk ((by rw [hg]; exact (below_size (at_ HB.out)) : w.heap.size ≤ gb218))
   replace HB := Aside0.mk (below_step (at_ HB.out) hb)
   have NB204_218 := Aside0.mk ((by rw [hg]; exact Nat.ne_of_lt (blk_lt (g := gb204) (o := .cells #[.int .i64 a1_0, .slice A1_1 l1_1.length c1_1] 83 (0, 0)) (by (with_reducible repeat (first | refine blk_drewN ?_ _ | refine blk_drew ?_ | refine blk_alloc ?_ _)); exact BK204.out)) : gb204 ≠ gb218))
   have NB218_204 := Aside0.mk ((by rw [hg]; exact Nat.ne_of_gt (blk_lt (g := gb204) (o := .cells #[.int .i64 a1_0, .slice A1_1 l1_1.length c1_1] 83 (0, 0)) (by (with_reducible repeat (first | refine blk_drewN ?_ _ | refine blk_drew ?_ | refine blk_alloc ?_ _)); exact BK204.out)) : gb218 ≠ gb204))
   replace BK204 := Aside0.mk (blk_at BK204.out hb)
   have NB205_218 := Aside0.mk ((by rw [hg]; exact Nat.ne_of_lt (blk_lt (g := gb205) (o := .cells #[.int .i64 0, .slice none 0 0] 83 (0, 0)) (by (with_reducible repeat (first | refine blk_drewN ?_ _ | refine blk_drew ?_ | refine blk_alloc ?_ _)); exact BK205.out)) : gb205 ≠ gb218))
   have NB218_205 := Aside0.mk ((by rw [hg]; exact Nat.ne_of_gt (blk_lt (g := gb205) (o := .cells #[.int .i64 0, .slice none 0 0] 83 (0, 0)) (by (with_reducible repeat (first | refine blk_drewN ?_ _ | refine blk_drew ?_ | refine blk_alloc ?_ _)); exact BK205.out)) : gb218 ≠ gb205))
   replace BK205 := Aside0.mk (blk_at BK205.out hb)
   clear hb hbox hg
   refine hK.out _ _ ⟨(blk_cell BK204.out 0).trans rfl, (blk_cell BK204.out 1).trans rfl⟩ (fun hHeld => ?_)
   clear hK K
   refine norm_ (a' := ?_) ?_ ?_
   rotate_left
   ·show Act.put _ (some 6) _ = _
    simp only [Act.put, z0_, z1_, z2_, i64_w, i32_w]
    rfl
   exact norm_ (by first | (simp only [putAll, Act.put, z0_, z1_, z2_]; done) | (simp only [putAll, Act.put, z0_, z1_, z2_]; rfl)) (hJ7_10 (v213, gb218) _ ⟨hHeld, (Kd.R_below HO214.out lt_), (by (with_reducible repeat (first | refine blk_drewN ?_ _ | refine blk_drew ?_ | refine blk_alloc ?_ _)); exact BK204.out), (by (with_reducible repeat (first | refine blk_drewN ?_ _ | refine blk_drew ?_ | refine blk_alloc ?_ _)); exact BK205.out), (by (with_reducible repeat (first | refine blk_drewN ?_ _ | refine blk_drew ?_ | refine blk_alloc ?_ _)); exact BK218.out), GW218.out, GE218.out, NB204_218.out, NB218_204.out, NB205_218.out, NB218_205.out, (at_ HB.out)⟩)
  intro hJ7
  refine join_ (σ := Nat) 6 #[true, true, false, true, true, false, true, false, false, false, true, false] (fun s_ => [(6, .pointer (some ⟨s_, 0, none⟩))]) (fun s_ w' => (w'.cell? ⟨gb204, 0, none⟩ = some (.int .i64 a1_0) ∧ w'.cell? ⟨gb204, 1, none⟩ = some (.slice A1_1 l1_1.length c1_1)) ∧ (w'.heap[gb204]? = some (.cells #[.int .i64 a1_0, .slice A1_1 l1_1.length c1_1] 83 (0, 0))) ∧ (w'.heap[gb205]? = some (.cells #[.int .i64 0, .slice none 0 0] 83 (0, 0))) ∧ (w'.heap[s_]? = some (.cells #[.int .i64 0, .slice none 0 0] 83 (0, 0))) ∧ (w.heap.size ≤ s_) ∧ (w.heap.size ≤ s_) ∧ (gb204 ≠ s_) ∧ (s_ ≠ gb204) ∧ (gb205 ≠ s_) ∧ (s_ ≠ gb205) ∧ (Below w.heap.size w w')) ?_ ?_
  rotate_left
  rotate_left
  ·skip
   rintro gb218 w13 ⟨hS_, h0_, h1_, h2_, h3_, h4_, h5_, h6_, h7_, h8_, h9_⟩
   have n0_ : Aside0 (w13.heap[gb204]? = some (.cells #[.int .i64 a1_0, .slice A1_1 l1_1.length c1_1] 83 (0, 0))) := ⟨h0_⟩
   have n1_ : Aside0 (w13.heap[gb205]? = some (.cells #[.int .i64 0, .slice none 0 0] 83 (0, 0))) := ⟨h1_⟩
   have n2_ : Aside0 (w13.heap[gb218]? = some (.cells #[.int .i64 0, .slice none 0 0] 83 (0, 0))) := ⟨h2_⟩
   have n3_ : Aside0 (w.heap.size ≤ gb218) := ⟨h3_⟩
   have n4_ : Aside0 (w.heap.size ≤ gb218) := ⟨h4_⟩
   have n5_ : Aside0 (gb204 ≠ gb218) := ⟨h5_⟩
   have n6_ : Aside0 (gb218 ≠ gb204) := ⟨h6_⟩
   have n7_ : Aside0 (gb205 ≠ gb218) := ⟨h7_⟩
   have n8_ : Aside0 (gb218 ≠ gb205) := ⟨h8_⟩
   have n9_ : Aside0 (Below w.heap.size w w13) := ⟨h9_⟩
   clear BK204
   clear BK205
   clear HB
   clear h0_ h1_ h2_ h3_ h4_ h5_ h6_ h7_ h8_ h9_
   have BK204 := n0_
   have BK205 := n1_
   have BK218 := n2_
   have GW218 := n3_
   have GE218 := n4_
   have NB204_218 := n5_
   have NB218_204 := n6_
   have NB205_218 := n7_
   have NB218_205 := n8_
   have HB := n9_
   clear n0_ n1_ n2_ n3_ n4_ n5_ n6_ n7_ n8_ n9_
   have hHeld : w13.cell? ⟨gb204, 0, none⟩ = some (.int .i64 a1_0) ∧ w13.cell? ⟨gb204, 1, none⟩ = some (.slice A1_1 l1_1.length c1_1) := hS_
   refine norm_ (a' := ?_) ?_ ?_
   rotate_left
   ·simp only [putAll, Act.put, z0_, z1_, z2_]
    rfl
   refine two_ (i := 2) (j := 7) (Ni := some 9) (Nj := some 14) #[true, true, true, true, true, false, true, false, false, false, true, false] #[true, true, false, true, true, false, true, true, false, false, true, false] rfl rfl rfl rfl (two_of HT_.out (by kernel_rfl)) (by decide) (by decide) (fun K hK => ?_) (fun K hK => ?_)
   ·skip
    refine Kd.R_lit_step k81 _ 81 ?hg (N := 9) ?hd (xs := ([] : List (S81))) (inner := []) (ok := fun _ => True) (okp := fun _ => True) ?hr ?hp (fun _ hk => hk) trivial (Below.refl _ _) (Nat.le_refl _) (by simp) ?_; (case hd => rfl); (case hg => rfl); (case hr => first | (go_simp; done) | (go_simp; rfl)); (case hp => exact (Reps.none _ _))
    intro v207 w14 ho15 hb hg_ hnew_
    clear hg_ hnew_
    (first | rw [← Ny206.out] at ho15 | (simp only [Int.reduceToNat] at ho15; rw [← Ny206.out] at ho15))
    have HO208 := Aside0.mk (Kd.R_lower ho15 (below_size (at_ HB.out)))
    replace BK204 := Aside0.mk (blk_at BK204.out hb)
    replace BK205 := Aside0.mk (blk_at BK205.out hb)
    replace BK218 := Aside0.mk (blk_at BK218.out hb)
    replace HB := Aside0.mk (below_step (at_ HB.out) hb)
    clear hb ho15
    refine hK.out _ _ ⟨(blk_cell BK204.out 0).trans rfl, (blk_cell BK204.out 1).trans rfl⟩ (fun hHeld => ?_)
    clear hK K
    refine norm_ (a' := ?_) ?_ ?_
    rotate_left
    ·show Act.put _ (some 9) _ = _
     simp only [Act.put, z0_, z1_, z2_, i64_w, i32_w]
     rfl
    exact norm_ (by first | (simp only [putAll, Act.put, z0_, z1_, z2_]; done) | (simp only [putAll, Act.put, z0_, z1_, z2_]; rfl)) (hJ2_10 (v207, gb218) _ ⟨hHeld, (Kd.R_below HO208.out lt_), (by (with_reducible repeat (first | refine blk_drewN ?_ _ | refine blk_drew ?_ | refine blk_alloc ?_ _)); exact BK204.out), (by (with_reducible repeat (first | refine blk_drewN ?_ _ | refine blk_drew ?_ | refine blk_alloc ?_ _)); exact BK205.out), (by (with_reducible repeat (first | refine blk_drewN ?_ _ | refine blk_drew ?_ | refine blk_alloc ?_ _)); exact BK218.out), GW218.out, GE218.out, NB204_218.out, NB218_204.out, NB205_218.out, NB218_205.out, (at_ HB.out)⟩)
   skip
   refine Kd.R_lit_step k81 _ 81 ?hg (N := 14) ?hd (xs := ([(⟨2, 0⟩ : S81)] : List (S81))) (inner := [.int .i64 2, .int .i64 0]) (ok := fun _ => True) (okp := fun _ => True) ?hr ?hp (fun _ hk => hk) trivial (Below.refl _ _) (Nat.le_refl _) (by simp) ?_; (case hd => rfl); (case hg => rfl); (case hr => first | (go_simp; done) | (go_simp; rfl)); (case hp => exact (Reps.c2 (show Kd.M k81 _ _ _ (⟨2, 0⟩ : S81) [.int .i64 2, .int .i64 0] from (k81_mkM _ _ _ (⟨2, 0⟩ : S81) )) (Reps.none _ _)))
   intro v213 w14 ho15 hb hg_ hnew_
   clear hg_ hnew_
   (first | rw [← Ny212.out] at ho15 | (simp only [Int.reduceToNat] at ho15; rw [← Ny212.out] at ho15))
   have HO214 := Aside0.mk (Kd.R_lower ho15 (below_size (at_ HB.out)))
   replace BK204 := Aside0.mk (blk_at BK204.out hb)
   replace BK205 := Aside0.mk (blk_at BK205.out hb)
   replace BK218 := Aside0.mk (blk_at BK218.out hb)
   replace HB := Aside0.mk (below_step (at_ HB.out) hb)
   clear hb ho15
   refine hK.out _ _ ⟨(blk_cell BK204.out 0).trans rfl, (blk_cell BK204.out 1).trans rfl⟩ (fun hHeld => ?_)
   clear hK K
   refine norm_ (a' := ?_) ?_ ?_
   rotate_left
   ·show Act.put _ (some 14) _ = _
    simp only [Act.put, z0_, z1_, z2_, i64_w, i32_w]
    rfl
   exact norm_ (by first | (simp only [putAll, Act.put, z0_, z1_, z2_]; done) | (simp only [putAll, Act.put, z0_, z1_, z2_]; rfl)) (hJ7_10 (v213, gb218) _ ⟨hHeld, (Kd.R_below HO214.out lt_), (by (with_reducible repeat (first | refine blk_drewN ?_ _ | refine blk_drew ?_ | refine blk_alloc ?_ _)); exact BK204.out), (by (with_reducible repeat (first | refine blk_drewN ?_ _ | refine blk_drew ?_ | refine blk_alloc ?_ _)); exact BK205.out), (by (with_reducible repeat (first | refine blk_drewN ?_ _ | refine blk_drew ?_ | refine blk_alloc ?_ _)); exact BK218.out), GW218.out, GE218.out, NB204_218.out, NB218_204.out, NB205_218.out, NB218_205.out, (at_ HB.out)⟩)
  intro hJ10
  refine three_ (i := 2) (j := 7) (k := 10) (Ni := some 9) (Nj := some 14) (Nk := some 6) #[true, true, true, true, true, false, true, false, false, false, false, false] #[true, true, false, true, true, false, true, true, false, false, false, false] #[true, true, false, true, true, false, true, false, false, false, true, false] rfl rfl rfl rfl rfl rfl (three_of HT_.out (by kernel_rfl)) (by decide) (by decide) (by decide) (fun K hK => ?_) (fun K hK => ?_) (fun K hK => ?_)
  ·skip
   refine Kd.R_lit_step k81 _ 81 ?hg (N := 9) ?hd (xs := ([] : List (S81))) (inner := []) (ok := fun _ => True) (okp := fun _ => True) ?hr ?hp (fun _ hk => hk) trivial (Below.refl _ _) (Nat.le_refl _) (by simp) ?_; (case hd => rfl); (case hg => rfl); (case hr => first | (go_simp; done) | (go_simp; rfl)); (case hp => exact (Reps.none _ _))
   intro v207 w12 ho13 hb hg_ hnew_
   clear hg_ hnew_
   (first | rw [← Ny206.out] at ho13 | (simp only [Int.reduceToNat] at ho13; rw [← Ny206.out] at ho13))
   have HO208 := Aside0.mk (Kd.R_lower ho13 (below_size (at_ HB.out)))
   replace BK204 := Aside0.mk (blk_at BK204.out hb)
   replace BK205 := Aside0.mk (blk_at BK205.out hb)
   replace HB := Aside0.mk (below_step (at_ HB.out) hb)
   clear hb ho13
   refine hK.out _ _ ⟨(blk_cell BK204.out 0).trans rfl, (blk_cell BK204.out 1).trans rfl⟩ (fun hHeld => ?_)
   clear hK K
   refine norm_ (a' := ?_) ?_ ?_
   rotate_left
   ·show Act.put _ (some 9) _ = _
    simp only [Act.put, z0_, z1_, z2_, i64_w, i32_w]
    rfl
   exact norm_ (by first | (simp only [putAll, Act.put, z0_, z1_, z2_]; done) | (simp only [putAll, Act.put, z0_, z1_, z2_]; rfl)) (hJ2 (v207) _ ⟨hHeld, (Kd.R_below HO208.out lt_), (by (with_reducible repeat (first | refine blk_drewN ?_ _ | refine blk_drew ?_ | refine blk_alloc ?_ _)); exact BK204.out), (by (with_reducible repeat (first | refine blk_drewN ?_ _ | refine blk_drew ?_ | refine blk_alloc ?_ _)); exact BK205.out), (at_ HB.out)⟩)
  ·skip
   refine Kd.R_lit_step k81 _ 81 ?hg (N := 14) ?hd (xs := ([(⟨2, 0⟩ : S81)] : List (S81))) (inner := [.int .i64 2, .int .i64 0]) (ok := fun _ => True) (okp := fun _ => True) ?hr ?hp (fun _ hk => hk) trivial (Below.refl _ _) (Nat.le_refl _) (by simp) ?_; (case hd => rfl); (case hg => rfl); (case hr => first | (go_simp; done) | (go_simp; rfl)); (case hp => exact (Reps.c2 (show Kd.M k81 _ _ _ (⟨2, 0⟩ : S81) [.int .i64 2, .int .i64 0] from (k81_mkM _ _ _ (⟨2, 0⟩ : S81) )) (Reps.none _ _)))
   intro v213 w12 ho13 hb hg_ hnew_
   clear hg_ hnew_
   (first | rw [← Ny212.out] at ho13 | (simp only [Int.reduceToNat] at ho13; rw [← Ny212.out] at ho13))
   have HO214 := Aside0.mk (Kd.R_lower ho13 (below_size (at_ HB.out)))
   replace BK204 := Aside0.mk (blk_at BK204.out hb)
   replace BK205 := Aside0.mk (blk_at BK205.out hb)
   replace HB := Aside0.mk (below_step (at_ HB.out) hb)
   clear hb ho13
   refine hK.out _ _ ⟨(blk_cell BK204.out 0).trans rfl, (blk_cell BK204.out 1).trans rfl⟩ (fun hHeld => ?_)
   clear hK K
   refine norm_ (a' := ?_) ?_ ?_
   rotate_left
   ·show Act.put _ (some 14) _ = _
    simp only [Act.put, z0_, z1_, z2_, i64_w, i32_w]
    rfl
   exact norm_ (by first | (simp only [putAll, Act.put, z0_, z1_, z2_]; done) | (simp only [putAll, Act.put, z0_, z1_, z2_]; rfl)) (hJ7 (v213) _ ⟨hHeld, (Kd.R_below HO214.out lt_), (by (with_reducible repeat (first | refine blk_drewN ?_ _ | refine blk_drew ?_ | refine blk_alloc ?_ _)); exact BK204.out), (by (with_reducible repeat (first | refine blk_drewN ?_ _ | refine blk_drew ?_ | refine blk_alloc ?_ _)); exact BK205.out), (at_ HB.out)⟩)
  skip
  refine box_step ?hg (N := 6) ?hd (cs := #[.int .i64 0, .slice none 0 0]) (t := 83) ?hr ?_; (case hd => rfl); (case hg => rfl); (case hr => first | (go_simp; done) | (go_simp; rfl))
  intro gb218 hg w12 hbox hb
  have BK218 := Aside0.mk (hbox)
  have GW218 := Aside0.mk ((by rw [hg]; exact (below_size (at_ HB.out)) : w.heap.size ≤ gb218))
  have GE218 := Aside0.mk ((by rw [hg]; exact (below_size (at_ HB.out)) : w.heap.size ≤ gb218))
  replace HB := Aside0.mk (below_step (at_ HB.out) hb)
  have NB204_218 := Aside0.mk ((by rw [hg]; exact Nat.ne_of_lt (blk_lt (g := gb204) (o := .cells #[.int .i64 a1_0, .slice A1_1 l1_1.length c1_1] 83 (0, 0)) (by (with_reducible repeat (first | refine blk_drewN ?_ _ | refine blk_drew ?_ | refine blk_alloc ?_ _)); exact BK204.out)) : gb204 ≠ gb218))
  have NB218_204 := Aside0.mk ((by rw [hg]; exact Nat.ne_of_gt (blk_lt (g := gb204) (o := .cells #[.int .i64 a1_0, .slice A1_1 l1_1.length c1_1] 83 (0, 0)) (by (with_reducible repeat (first | refine blk_drewN ?_ _ | refine blk_drew ?_ | refine blk_alloc ?_ _)); exact BK204.out)) : gb218 ≠ gb204))
  replace BK204 := Aside0.mk (blk_at BK204.out hb)
  have NB205_218 := Aside0.mk ((by rw [hg]; exact Nat.ne_of_lt (blk_lt (g := gb205) (o := .cells #[.int .i64 0, .slice none 0 0] 83 (0, 0)) (by (with_reducible repeat (first | refine blk_drewN ?_ _ | refine blk_drew ?_ | refine blk_alloc ?_ _)); exact BK205.out)) : gb205 ≠ gb218))
  have NB218_205 := Aside0.mk ((by rw [hg]; exact Nat.ne_of_gt (blk_lt (g := gb205) (o := .cells #[.int .i64 0, .slice none 0 0] 83 (0, 0)) (by (with_reducible repeat (first | refine blk_drewN ?_ _ | refine blk_drew ?_ | refine blk_alloc ?_ _)); exact BK205.out)) : gb218 ≠ gb205))
  replace BK205 := Aside0.mk (blk_at BK205.out hb)
  clear hb hbox hg
  refine hK.out _ _ ⟨(blk_cell BK204.out 0).trans rfl, (blk_cell BK204.out 1).trans rfl⟩ (fun hHeld => ?_)
  clear hK K
  refine norm_ (a' := ?_) ?_ ?_
  rotate_left
  ·show Act.put _ (some 6) _ = _
   simp only [Act.put, z0_, z1_, z2_, i64_w, i32_w]
   rfl
  exact norm_ (by first | (simp only [putAll, Act.put, z0_, z1_, z2_]; done) | (simp only [putAll, Act.put, z0_, z1_, z2_]; rfl)) (hJ10 (gb218) _ ⟨hHeld, (by (with_reducible repeat (first | refine blk_drewN ?_ _ | refine blk_drew ?_ | refine blk_alloc ?_ _)); exact BK204.out), (by (with_reducible repeat (first | refine blk_drewN ?_ _ | refine blk_drew ?_ | refine blk_alloc ?_ _)); exact BK205.out), (by (with_reducible repeat (first | refine blk_drewN ?_ _ | refine blk_drew ?_ | refine blk_alloc ?_ _)); exact BK218.out), GW218.out, GE218.out, NB204_218.out, NB218_204.out, NB205_218.out, NB218_205.out, (at_ HB.out)⟩)
 rintro ⟨v207, v210, v213, v216, gb218⟩ w21 ⟨hS_, h0_, h1_, h2_, h3_, h4_, h5_, h6_, h7_, h8_, h9_, h10_, h11_⟩
 have n0_ : Aside0 (Kd.R k81 81 w21 w.heap.size (fun k_ => some k_ ≠ (v216 : Value).ownBlock) v213 y212) := ⟨h0_⟩
 have n1_ : Aside0 (Kd.R k81 81 w21 w.heap.size (fun k_ => some k_ ≠ (v213 : Value).ownBlock) v216 y215) := ⟨h1_⟩
 have n2_ : Aside0 (w21.heap[gb204]? = some (.cells #[.int .i64 a1_0, .slice A1_1 l1_1.length c1_1] 83 (0, 0))) := ⟨h2_⟩
 have n3_ : Aside0 (w21.heap[gb205]? = some (.cells #[.int .i64 0, .slice none 0 0] 83 (0, 0))) := ⟨h3_⟩
 have n4_ : Aside0 (w21.heap[gb218]? = some (.cells #[.int .i64 0, .slice none 0 0] 83 (0, 0))) := ⟨h4_⟩
 have n5_ : Aside0 (w.heap.size ≤ gb218) := ⟨h5_⟩
 have n6_ : Aside0 (w.heap.size ≤ gb218) := ⟨h6_⟩
 have n7_ : Aside0 (gb204 ≠ gb218) := ⟨h7_⟩
 have n8_ : Aside0 (gb218 ≠ gb204) := ⟨h8_⟩
 have n9_ : Aside0 (gb205 ≠ gb218) := ⟨h9_⟩
 have n10_ : Aside0 (gb218 ≠ gb205) := ⟨h10_⟩
 have n11_ : Aside0 (Below w.heap.size w w21) := ⟨h11_⟩
 clear BK204
 clear BK205
 clear HB
 clear h0_ h1_ h2_ h3_ h4_ h5_ h6_ h7_ h8_ h9_ h10_ h11_
 have HO214 := n0_
 have HO217 := n1_
 have BK204 := n2_
 have BK205 := n3_
 have BK218 := n4_
 have GW218 := n5_
 have GE218 := n6_
 have NB204_218 := n7_
 have NB218_204 := n8_
 have NB205_218 := n9_
 have NB218_205 := n10_
 have HB := n11_
 clear n0_ n1_ n2_ n3_ n4_ n5_ n6_ n7_ n8_ n9_ n10_ n11_
 have hHeld : w21.cell? ⟨gb204, 0, none⟩ = some (.int .i64 a1_0) ∧ w21.cell? ⟨gb204, 1, none⟩ = some (.slice A1_1 l1_1.length c1_1) := hS_
 obtain ⟨Ao22, co22, eo22⟩ := Kd.R_slice HO217.out
 (first | subst eo22 | (injection eo22 with f1_ f2_ f3_; have f4_ := f1_.symm; have f5_ := f3_.symm; clear f1_ f2_ f3_; subst f4_; subst f5_))
 refine norm_ (a' := ?_) ?_ ?_
 rotate_left
 ·simp only [putAll, Act.put, z0_, z1_, z2_]
  rfl
 refine one_ (i := 11) (N := none) #[true, true, true, true, true, true, true, true, true, true, true, true] rfl rfl (one_of HT_.out (by kernel_rfl)) (by decide) (fun K hK => ?_)
 have hs23 : w21.cell? ⟨gb218, 0, none⟩ = some (.int .i64 0) := (blk_cell BK218.out 0).trans rfl
 have hfs23 := blk_frozen BK218.out 0
 have hns23_0 := NB204_218.out
 have hns23_1 := NB205_218.out
 have hms23_0 := NB218_204.out
 have hms23_1 := NB218_205.out
 have hs24 : w21.cell? ⟨gb218, 1, none⟩ = some (.slice none 0 0) := (blk_cell BK218.out 1).trans rfl
 have hfs24 := blk_frozen BK218.out 1
 have hns24_0 := NB204_218.out
 have hns24_1 := NB205_218.out
 have hms24_0 := NB218_204.out
 have hms24_1 := NB218_205.out
 refine skip_ (w1 := ?_) (by rfl) rfl ?_ ?_
 rotate_left
 ·go_simp
  rfl
 refine hK.out _ _ ⟨((cell_far (p := ⟨gb218, _, none⟩) NB204_218.out _).trans (((cell_far (p := ⟨gb218, _, none⟩) NB204_218.out _).trans (hHeld.1)))), ((cell_far (p := ⟨gb218, _, none⟩) NB204_218.out _).trans (((cell_far (p := ⟨gb218, _, none⟩) NB204_218.out _).trans (hHeld.2))))⟩ (fun hHeld => ?_)
 clear hK K
 refine done_ (done_of HT_.out (by kernel_rfl)) ?_
 have hnb25 := NB204_205.out
 have hnc25 := NB205_204.out
 have hnb26 := NB204_218.out
 have hnc26 := NB218_204.out
 have hcz27_0 := blk_cell BK204.out 0
 have hcz27_1 := blk_cell BK204.out 1
 have hfz27_0 := blk_frozen BK204.out 0
 have hfz27_1 := blk_frozen BK204.out 1
 have H := HH_.out
 clear HH_
 by_cases c6 : t219 = true
 rotate_left
 ·replace c6 := Bool.eq_false_iff.mpr c6
  subst c6
  rw [if_neg (show ¬ (false = true) by decide)] at H
  simp only [Option.some.injEq, Prod.mk.injEq] at H
  obtain ⟨rfl, rfl, rfl⟩ := H
  try go_wp2_with (first | ((with_reducible refine gate_callee (f := 98) rfl ?_); refine goesL_ (some 19) rfl rfl Try.func98 (by kernel_rfl) rfl #[.int .i64 a0, .agg #[.int .i64 a1_0, .slice A1_1 l1_1.length c1_1]] rfl (by (try simp only [List.map_toArray, List.map_cons, List.map_nil]); first | done | rfl | (simp only [List.length_drop, List.length_take]; rfl)) ?_; (with_reducible refine (spec_ClaimOk.calls k a0 a1_0 _ _ l1_1 false _ ?side1 ?side2 A5.out).mono ?_); (case side1 => exact Kd.C_below HR1_1.out (at_ HB.out)); (case side2 => exact HC1_1.out); rintro e w77 ⟨rfl, hb⟩; refine ⟨_, rfl, ?_⟩; replace BK205 := Aside0.mk (blk_below (g := gb205) (o := .cells #[.int .i64 0, .slice none 0 0] 83 (0, 0)) (by (with_reducible repeat (first | refine blk_drewN ?_ _ | refine blk_drew ?_ | refine blk_alloc ?_ _)); refine blk_far ?_ NB205_218.out _; (with_reducible repeat (first | refine blk_drewN ?_ _ | refine blk_drew ?_ | refine blk_alloc ?_ _)); refine blk_far ?_ NB205_218.out _; (with_reducible repeat (first | refine blk_drewN ?_ _ | refine blk_drew ?_ | refine blk_alloc ?_ _)); exact BK205.out) hb); replace HB := Aside0.mk (below_step (at_ HB.out) hb); (try clear HO214 HO217 BK204 BK218); (try clear hb); (try clear hb2); (try clear hk); (try clear hi); have hnb78 := NB205_218.out; have hnc78 := NB218_205.out; have hcz79_0 := blk_cell BK205.out 0; have hcz79_1 := blk_cell BK205.out 1; have hfz79_0 := blk_frozen BK205.out 0; have hfz79_1 := blk_frozen BK205.out 1))
  refine bodyPost_ret (results_ct rfl _ _ gb205 83 #[.int .i64 0, .slice none 0 0] (0, 0) _ rfl (by (with_reducible repeat (first | refine blk_drewN ?_ _ | refine blk_drew ?_ | refine blk_alloc ?_ _)); refine blk_put (cs := #[.int .i64 0, .slice none 0 0]) ?_ 1 _ rfl; (with_reducible repeat (first | refine blk_drewN ?_ _ | refine blk_drew ?_ | refine blk_alloc ?_ _)); refine blk_put (cs := #[.int .i64 0, .slice none 0 0]) ?_ 0 _ rfl; (with_reducible repeat (first | refine blk_drewN ?_ _ | refine blk_drew ?_ | refine blk_alloc ?_ _)); exact BK205.out) Try.underlying83 rfl (by kernel_rfl)) rfl ?_
  exact ⟨_, by first | rfl | (simp [errW_none, errW_some] <;> rfl) | (simp [*, errW_none, errW_some] <;> rfl), by first | exact Kd.R_nil _ _ _ _ _ | exact Kd.N_nil _ _ _ _ _ | exact Kd.V_nil _ _ _ _ _ | exact Kd.Q_nil _ _ _ _ _ | exact Kd.S_nil _ _ _ _ _, at_ HB.out⟩
 subst c6
 rw [if_pos rfl] at H
 replace H := Option.bind_eq_some_iff.mp H
 obtain ⟨t220, A70, H⟩ := H
 try dsimp only at H
 have A7 := Aside0.mk A70
 clear A70
 by_cases c8 : t220 = true
 rotate_left
 ·replace c8 := Bool.eq_false_iff.mpr c8
  subst c8
  rw [if_neg (show ¬ (false = true) by decide)] at H
  simp only [Option.some.injEq, Prod.mk.injEq] at H
  obtain ⟨rfl, rfl, rfl⟩ := H
  try go_wp2_with (first | ((with_reducible refine gate_callee (f := 98) rfl ?_); refine goesL_ (some 19) rfl rfl Try.func98 (by kernel_rfl) rfl #[.int .i64 a0, .agg #[.int .i64 a1_0, .slice A1_1 l1_1.length c1_1]] rfl (by (try simp only [List.map_toArray, List.map_cons, List.map_nil]); first | done | rfl | (simp only [List.length_drop, List.length_take]; rfl)) ?_; (with_reducible refine (spec_ClaimOk.calls k a0 a1_0 _ _ l1_1 true _ ?side1 ?side2 A5.out).mono ?_); (case side1 => exact Kd.C_below HR1_1.out (at_ HB.out)); (case side2 => exact HC1_1.out); rintro e w53 ⟨rfl, hb⟩; refine ⟨_, rfl, ?_⟩; replace HO217 := Aside0.mk (Kd.R_below (by (with_reducible repeat (first | apply Kd.R_alloc | apply Kd.R_drewN | apply Kd.R_drew)); exact (Kd.R_mono (Kd.R_far (p := ⟨gb218, 1, none⟩) (Kd.R_far (p := ⟨gb218, 0, none⟩) (Kd.R_types HO217.out BK218.out (by decide)) (fun _ hk => hk.2) (.int .i64 a1_0)) (fun _ hk => hk.2) (.slice Ao22 y215.length co22)) (fun _ h_ => h_.1))) hb); replace BK205 := Aside0.mk (blk_below (g := gb205) (o := .cells #[.int .i64 0, .slice none 0 0] 83 (0, 0)) (by (with_reducible repeat (first | refine blk_drewN ?_ _ | refine blk_drew ?_ | refine blk_alloc ?_ _)); refine blk_far ?_ NB205_218.out _; (with_reducible repeat (first | refine blk_drewN ?_ _ | refine blk_drew ?_ | refine blk_alloc ?_ _)); refine blk_far ?_ NB205_218.out _; (with_reducible repeat (first | refine blk_drewN ?_ _ | refine blk_drew ?_ | refine blk_alloc ?_ _)); exact BK205.out) hb); replace BK218 := Aside0.mk (blk_below (g := gb218) (o := .cells #[.int .i64 a1_0, .slice Ao22 y215.length co22] 83 (0, 0)) (by (with_reducible repeat (first | refine blk_drewN ?_ _ | refine blk_drew ?_ | refine blk_alloc ?_ _)); refine blk_put (cs := #[.int .i64 a1_0, .slice none 0 0]) ?_ 1 _ rfl; (with_reducible repeat (first | refine blk_drewN ?_ _ | refine blk_drew ?_ | refine blk_alloc ?_ _)); refine blk_put (cs := #[.int .i64 0, .slice none 0 0]) ?_ 0 _ rfl; (with_reducible repeat (first | refine blk_drewN ?_ _ | refine blk_drew ?_ | refine blk_alloc ?_ _)); exact BK218.out) hb); replace HB := Aside0.mk (below_step (at_ HB.out) hb); (try clear HO214 BK204); (try clear hb); (try clear hb2); (try clear hk); (try clear hi); have hnb54 := NB218_205.out; have hnc54 := NB205_218.out; have hcz55_0 := blk_cell BK218.out 0; have hcz55_1 := blk_cell BK218.out 1; have hfz55_0 := blk_frozen BK218.out 0; have hfz55_1 := blk_frozen BK218.out 1) | (go_at_call 98; (with_reducible refine (spec_ClaimOk.calls k a0 a1_0 _ _ y215 false _ ?side1 ?side2 A7.out).mono ?_); (case side1 => exact Kd.C_below (Kd.R_reads' HO217.out).2.2 lt_); (case side2 => exact (Kd.R_reads' HO217.out).2.1); rintro e w56 ⟨rfl, hb⟩; replace BK205 := Aside0.mk (blk_at BK205.out hb); replace HB := Aside0.mk (below_step (at_ HB.out) hb); (try clear HO214 HO217 BK204 BK218); (try clear hb); (try clear hb2); (try clear hk); (try clear hi); have hcz57_0 := blk_cell BK205.out 0; have hcz57_1 := blk_cell BK205.out 1; have hfz57_0 := blk_frozen BK205.out 0; have hfz57_1 := blk_frozen BK205.out 1))
  refine bodyPost_ret (results_ct rfl _ _ gb205 83 #[.int .i64 0, .slice none 0 0] (0, 0) _ rfl (by (with_reducible repeat (first | refine blk_drewN ?_ _ | refine blk_drew ?_ | refine blk_alloc ?_ _)); refine blk_put (cs := #[.int .i64 0, .slice none 0 0]) ?_ 1 _ rfl; (with_reducible repeat (first | refine blk_drewN ?_ _ | refine blk_drew ?_ | refine blk_alloc ?_ _)); refine blk_put (cs := #[.int .i64 0, .slice none 0 0]) ?_ 0 _ rfl; (with_reducible repeat (first | refine blk_drewN ?_ _ | refine blk_drew ?_ | refine blk_alloc ?_ _)); exact BK205.out) Try.underlying83 rfl (by kernel_rfl)) rfl ?_
  exact ⟨_, by first | rfl | (simp [errW_none, errW_some] <;> rfl) | (simp [*, errW_none, errW_some] <;> rfl), by first | exact Kd.R_nil _ _ _ _ _ | exact Kd.N_nil _ _ _ _ _ | exact Kd.V_nil _ _ _ _ _ | exact Kd.Q_nil _ _ _ _ _ | exact Kd.S_nil _ _ _ _ _, at_ HB.out⟩
 subst c8
 rw [if_pos rfl] at H
 simp only [Option.some.injEq, Prod.mk.injEq] at H
 obtain ⟨rfl, rfl, rfl⟩ := H
 try go_wp2_with (first | ((with_reducible refine gate_callee (f := 98) rfl ?_); refine goesL_ (some 19) rfl rfl Try.func98 (by kernel_rfl) rfl #[.int .i64 a0, .agg #[.int .i64 a1_0, .slice A1_1 l1_1.length c1_1]] rfl (by (try simp only [List.map_toArray, List.map_cons, List.map_nil]); first | done | rfl | (simp only [List.length_drop, List.length_take]; rfl)) ?_; (with_reducible refine (spec_ClaimOk.calls k a0 a1_0 _ _ l1_1 true _ ?side1 ?side2 A5.out).mono ?_); (case side1 => exact Kd.C_below HR1_1.out (at_ HB.out)); (case side2 => exact HC1_1.out); rintro e w28 ⟨rfl, hb⟩; refine ⟨_, rfl, ?_⟩; replace HO217 := Aside0.mk (Kd.R_below (by (with_reducible repeat (first | apply Kd.R_alloc | apply Kd.R_drewN | apply Kd.R_drew)); exact (Kd.R_mono (Kd.R_far (p := ⟨gb218, 1, none⟩) (Kd.R_far (p := ⟨gb218, 0, none⟩) (Kd.R_types HO217.out BK218.out (by decide)) (fun _ hk => hk.2) (.int .i64 a1_0)) (fun _ hk => hk.2) (.slice Ao22 y215.length co22)) (fun _ h_ => h_.1))) hb); replace BK205 := Aside0.mk (blk_below (g := gb205) (o := .cells #[.int .i64 0, .slice none 0 0] 83 (0, 0)) (by (with_reducible repeat (first | refine blk_drewN ?_ _ | refine blk_drew ?_ | refine blk_alloc ?_ _)); refine blk_far ?_ NB205_218.out _; (with_reducible repeat (first | refine blk_drewN ?_ _ | refine blk_drew ?_ | refine blk_alloc ?_ _)); refine blk_far ?_ NB205_218.out _; (with_reducible repeat (first | refine blk_drewN ?_ _ | refine blk_drew ?_ | refine blk_alloc ?_ _)); exact BK205.out) hb); replace BK218 := Aside0.mk (blk_below (g := gb218) (o := .cells #[.int .i64 a1_0, .slice Ao22 y215.length co22] 83 (0, 0)) (by (with_reducible repeat (first | refine blk_drewN ?_ _ | refine blk_drew ?_ | refine blk_alloc ?_ _)); refine blk_put (cs := #[.int .i64 a1_0, .slice none 0 0]) ?_ 1 _ rfl; (with_reducible repeat (first | refine blk_drewN ?_ _ | refine blk_drew ?_ | refine blk_alloc ?_ _)); refine blk_put (cs := #[.int .i64 0, .slice none 0 0]) ?_ 0 _ rfl; (with_reducible repeat (first | refine blk_drewN ?_ _ | refine blk_drew ?_ | refine blk_alloc ?_ _)); exact BK218.out) hb); replace HB := Aside0.mk (below_step (at_ HB.out) hb); (try clear HO214 BK204); (try clear hb); (try clear hb2); (try clear hk); (try clear hi); have hnb29 := NB218_205.out; have hnc29 := NB205_218.out; have hcz30_0 := blk_cell BK218.out 0; have hcz30_1 := blk_cell BK218.out 1; have hfz30_0 := blk_frozen BK218.out 0; have hfz30_1 := blk_frozen BK218.out 1) | (go_at_call 98; (with_reducible refine (spec_ClaimOk.calls k a0 a1_0 _ _ y215 true _ ?side1 ?side2 A7.out).mono ?_); (case side1 => exact Kd.C_below (Kd.R_reads' HO217.out).2.2 lt_); (case side2 => exact (Kd.R_reads' HO217.out).2.1); rintro e w31 ⟨rfl, hb⟩; replace HO217 := Aside0.mk (Kd.R_below (Kd.R_below HO217.out lt_) hb); replace BK205 := Aside0.mk (blk_at BK205.out hb); replace BK218 := Aside0.mk (blk_at BK218.out hb); replace HB := Aside0.mk (below_step (at_ HB.out) hb); (try clear HO214 BK204); (try clear hb); (try clear hb2); (try clear hk); (try clear hi); have hcz32_0 := blk_cell BK218.out 0; have hcz32_1 := blk_cell BK218.out 1; have hfz32_0 := blk_frozen BK218.out 0; have hfz32_1 := blk_frozen BK218.out 1; have hcz33_0 := blk_cell BK205.out 0; have hcz33_1 := blk_cell BK205.out 1; have hfz33_0 := blk_frozen BK205.out 0; have hfz33_1 := blk_frozen BK205.out 1))
 refine bodyPost_ret (results_ct rfl _ _ gb205 83 #[.int .i64 a1_0, .slice Ao22 y215.length co22] (0, 0) _ rfl (by (with_reducible repeat (first | refine blk_drewN ?_ _ | refine blk_drew ?_ | refine blk_alloc ?_ _)); refine blk_put (cs := #[.int .i64 a1_0, .slice none 0 0]) ?_ 1 _ rfl; (with_reducible repeat (first | refine blk_drewN ?_ _ | refine blk_drew ?_ | refine blk_alloc ?_ _)); refine blk_put (cs := #[.int .i64 0, .slice none 0 0]) ?_ 0 _ rfl; (with_reducible repeat (first | refine blk_drewN ?_ _ | refine blk_drew ?_ | refine blk_alloc ?_ _)); exact BK205.out) Try.underlying83 rfl (by kernel_rfl)) rfl ?_
 exact ⟨_, by first | rfl | (simp [errW_none, errW_some] <;> rfl) | (simp [*, errW_none, errW_some] <;> rfl), by (with_reducible repeat (first | apply Kd.R_alloc | apply Kd.R_drewN | apply Kd.R_drew)); exact Kd.R_mono (Kd.R_far (p := ⟨gb205, 1, none⟩) (Kd.R_far (p := ⟨gb205, 0, none⟩) (Kd.R_types HO217.out BK205.out (by decide)) (fun _ hk => hk.2) (.int .i64 a1_0)) (fun _ hk => hk.2) (.slice Ao22 y215.length co22)) (fun _ hk => trivial), at_ HB.out⟩

end Go.Proofs.Ytbhmippoeimliaa.P

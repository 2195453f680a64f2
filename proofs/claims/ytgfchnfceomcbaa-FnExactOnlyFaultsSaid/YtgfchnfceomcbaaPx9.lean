/- Written by our program myprint.py out of Lean's print of the translation: Go's function comes to just the answer of the Lean function told here. -/
import Derived.Test.YtgfchnfceomcbaaPx0
import Derived.Test.YtgfchnfceomcbaaPx3
import Derived.Test.YtgfchnfceomcbaaPx8
namespace Go.Proofs.Ytgfchnfceomcbaa.P
open Go.RowKit Go.Proofs.YtgfchnfceomcbaaW.PrintWords Go.Proofs.YtgfchnfceomcbaaW.PrintLast Go.Proofs.YtgfchnfceomcbaaW.PrintMore
attribute [local go_sem] max2_int min2_int max_two min_two max_three min_three max_four min_four   -- for this text's walks alone
set_option linter.unusedVariables false
set_option linter.unusedSimpArgs false

/-! ### spec_l20Syndrome: function 59 -/
def spec_l20Syndrome.j0 : Nat → Int → List (List Int) → List Int → Int → Option ((List (List Int)) × Int)
  | 0, _, _, _, _ => none
  | k + 1, x1, x6, x1000, x1001 => (spec_l20Rd_odd.f k x1000 x1001 x1).bind fun bt206 => (if bt206.1 = true then ((spec_l20Rd_pick.f k x1000 bt206.2 3).bind fun bt208 => (if bt208.1 = 0 then (some ((([] : List (List Int))), bt208.2)) else (if bt208.1 = 1 then (if 0 < (x6.length : Int) then (if 0 < ((rd_L2 x6 0).length : Int) then (some ((x6.set (0 : Int).toNat ((rd_L2 x6 0).set (0 : Int).toNat 1)), bt208.2)) else (none)) else (none)) else (if 0 < (x6.length : Int) then (if (rd_L2 x6 0).length < 17592186044416 then (some ((x6.set (0 : Int).toNat ((rd_L2 x6 0) ++ [0])), bt208.2)) else (none)) else (none))))) else (some (x6, bt206.2)))
def spec_l20Syndrome.f (k : Nat) (s0_0 : List Int) (s0_1 : Int) (a1 : Int) : Option ((List (List Int)) × Int) := (spec_l20Rd_pick.f k s0_0 s0_1 5).bind fun bt181 => (if 0 ≤ (wrap64 (1 + bt181.1)) then ((spec_l20Rd_pick.f k s0_0 bt181.2 (shl .i64 1 (wrap64 (1 + bt181.1)))).bind fun bt183 => ((spec_l20Rd_pick.f k s0_0 bt183.2 (shl .i64 1 (wrap64 (1 + bt181.1)))).bind fun bt185 => ((spec_l20Rd_pick.f k s0_0 bt185.2 256).bind fun bt187 => ((spec_l20Rd_pick.f k s0_0 bt187.2 256).bind fun bt189 => ((spec_MadeSyndrome.f k (wrap64 (1 + bt181.1)) (Go.bits .and .i64 bt183.1 bt185.1) (wrap64 ((wrap64 (bt187.1 * 256)) + bt189.1))).bind fun t191 => ((spec_l20Rd_pick.f k s0_0 bt189.2 4).bind fun bt194 => (if bt194.1 = 0 then ((spec_l20Rd_pick.f k s0_0 bt194.2 (wrap64 (1 + bt181.1))).bind fun bt196 => ((spec_l20Rd_pick.f k s0_0 bt196.2 (wrap64 (1 + bt181.1))).bind fun bt198 => (if bt198.1 = bt196.1 then (spec_l20Syndrome.j0 k a1 t191 s0_0 bt198.2) else (if 0 ≤ bt196.1 then (if bt196.1 < (t191.length : Int) then (if 0 ≤ bt198.1 then (if bt198.1 < ((rd_L2 t191 bt196.1).length : Int) then (spec_l20Syndrome.j0 k a1 (t191.set (bt196.1 : Int).toNat ((rd_L2 t191 bt196.1).set (bt198.1 : Int).toNat (wrap64 (1 - (rd (rd_L2 t191 bt196.1) bt198.1))))) s0_0 bt198.2) else (none)) else (none)) else (none)) else (none))))) else (spec_l20Syndrome.j0 k a1 t191 s0_0 bt194.2)))))))) else (none))
theorem spec_l20Syndrome.mono_l : ∀ k, (∀ y0 y1 y2 y3, LeO (spec_l20Syndrome.j0 k y0 y1 y2 y3) (spec_l20Syndrome.j0 (k + 1) y0 y1 y2 y3))
  | 0 => fun _ _ _ _ r h => by simp [spec_l20Syndrome.j0] at h
  | k + 1 => by
    have ih0 := spec_l20Syndrome.mono_l k
    · intro y0 y1 y2 y3
      unfold spec_l20Syndrome.j0
      repeat' first
      | (with_reducible exact ih0 _ _ _ _)
      | (with_reducible exact spec_MadeSyndrome.mono _ _ _ _)
      | (with_reducible exact spec_l20Rd_odd.mono _ _ _ _)
      | (with_reducible exact spec_l20Rd_pick.mono _ _ _ _)
      | (with_reducible exact LeO.refl _)
      | (with_reducible exact LeO.none _)
      | (with_reducible refine LeO.ite ?_ ?_)
      | (with_reducible refine LeO.bind ?_ (fun _ => ?_))
      | exact ih0 _ _ _ _
      | exact spec_MadeSyndrome.mono _ _ _ _
      | exact spec_l20Rd_odd.mono _ _ _ _
      | exact spec_l20Rd_pick.mono _ _ _ _
      | exact LeO.none _
      | refine LeO.ite ?_ ?_
      | refine LeO.bind ?_ (fun _ => ?_)
theorem spec_l20Syndrome.mono : ∀ a0 a1 a2 k, LeO (spec_l20Syndrome.f k a0 a1 a2) (spec_l20Syndrome.f (k + 1) a0 a1 a2) := by
  intro a0 a1 a2 k
  have ih0 := spec_l20Syndrome.mono_l k
  unfold spec_l20Syndrome.f
  repeat' first
      | (with_reducible exact ih0 _ _ _ _)
      | (with_reducible exact spec_MadeSyndrome.mono _ _ _ _)
      | (with_reducible exact spec_l20Rd_odd.mono _ _ _ _)
      | (with_reducible exact spec_l20Rd_pick.mono _ _ _ _)
      | (with_reducible exact LeO.refl _)
      | (with_reducible exact LeO.none _)
      | (with_reducible refine LeO.ite ?_ ?_)
      | (with_reducible refine LeO.bind ?_ (fun _ => ?_))
      | exact ih0 _ _ _ _
      | exact spec_MadeSyndrome.mono _ _ _ _
      | exact spec_l20Rd_odd.mono _ _ _ _
      | exact spec_l20Rd_pick.mono _ _ _ _
      | exact LeO.none _
      | refine LeO.ite ?_ ?_
      | refine LeO.bind ?_ (fun _ => ?_)
def spec_l20Syndrome.T2 : Bool × List (List Nat × List Nat) := (true, [([], []), ([], []), ([], []), ([2], [2]), ([1, 3], [1, 3]), ([], []), ([], []), ([6], [6]), ([5, 7, 4], [5, 7]), ([4, 8], [4, 8]), ([], []), ([10, 8], [10]), ([11], [11]), ([], []), ([13, 11], [13]), ([12, 14], [12, 14]), ([0, 9, 15, 14], [0, 9, 15]), ([16, 16, 0, 1, 2, 3, 4, 5, 6, 7, 8, 9, 10, 11, 12, 13, 14, 15, 16], [16])])
def spec_l20Syndrome.B2 : List Nat := [0, 0, 0, 4, 14, 0, 0, 64, 254, 510, 0, 1534, 3582, 0, 11774, 32254, 65535, 131071]
theorem spec_l20Syndrome.tab2 : rtab .any (opsOf Try.f59 2) = spec_l20Syndrome.T2 := by kernel_rfl
theorem spec_l20Syndrome.bits2 : waitsOk spec_l20Syndrome.T2.2 spec_l20Syndrome.B2 = true := by kernel_rfl
def spec_l20Syndrome.T7 : Bool × List (List Nat × List Nat) := (true, [([], []), ([], []), ([0, 1], [0, 1]), ([2], [2]), ([], []), ([], []), ([], []), ([5, 6], [5, 6]), ([7], [7]), ([], []), ([8, 9], [8, 9]), ([10], [10]), ([11], [11]), ([3, 4, 0, 1, 2, 3, 4, 5, 6, 7, 8, 9, 10, 11, 12], [3, 4]), ([13, 12, 0, 1, 2, 3, 4, 5, 6, 7, 8, 9, 10, 11, 12], [12, 13])])
def spec_l20Syndrome.B7 : List Nat := [0, 0, 3, 7, 0, 0, 0, 96, 224, 0, 992, 2016, 4064, 8191, 16383]
theorem spec_l20Syndrome.tab7 : rtab .any (opsOf Try.f59 7) = spec_l20Syndrome.T7 := by kernel_rfl
theorem spec_l20Syndrome.bits7 : waitsOk spec_l20Syndrome.T7.2 spec_l20Syndrome.B7 = true := by kernel_rfl
set_option maxHeartbeats 8000000 in
set_option maxRecDepth 100000 in
theorem spec_l20Syndrome.calls (k : Nat) (g : Nat) (s0_0 : List Int) (s0_1 : Int) (a1 : Int) (r1 : List (List Int)) (r2 : Int) (w0 w : World) (hI : IsS57 w0 w g s0_0 s0_1) (hB : Below w0.heap.size w0 w) (h : spec_l20Syndrome.f k s0_0 s0_1 a1 = some (r1, r2)) :
    Calls Try.prog 59 #[.pointer (some ⟨g, 0, none⟩), .int .i64 a1] w fun e w' => ∃ v0_ : Value, e = .returned (v0_) ∧ Kd.S (Kd.slice 3 (Kd.int .i64)) 34 w' w.heap.size (fun _ => True) v0_ r1 ∧ IsS57 w0 w' g s0_0 r2 ∧ Below w0.heap.size w0 w' ∧ KeepBut w w' g none := by
  have HI0 := Aside0.mk hI
  have HK := Aside0.mk (KeepBut.refl w g none)
  have HL := Aside0.mk hB.size
  clear hI
  have HW0 := Aside0.mk hB.size
  have HB := Aside0.mk hB
  clear hB
  have H : ((spec_l20Rd_pick.f k s0_0 s0_1 5).bind fun bt181 => (if 0 ≤ (wrap64 (1 + bt181.1)) then ((spec_l20Rd_pick.f k s0_0 bt181.2 (shl .i64 1 (wrap64 (1 + bt181.1)))).bind fun bt183 => ((spec_l20Rd_pick.f k s0_0 bt183.2 (shl .i64 1 (wrap64 (1 + bt181.1)))).bind fun bt185 => ((spec_l20Rd_pick.f k s0_0 bt185.2 256).bind fun bt187 => ((spec_l20Rd_pick.f k s0_0 bt187.2 256).bind fun bt189 => ((spec_MadeSyndrome.f k (wrap64 (1 + bt181.1)) (Go.bits .and .i64 bt183.1 bt185.1) (wrap64 ((wrap64 (bt187.1 * 256)) + bt189.1))).bind fun t191 => ((spec_l20Rd_pick.f k s0_0 bt189.2 4).bind fun bt194 => (if bt194.1 = 0 then ((spec_l20Rd_pick.f k s0_0 bt194.2 (wrap64 (1 + bt181.1))).bind fun bt196 => ((spec_l20Rd_pick.f k s0_0 bt196.2 (wrap64 (1 + bt181.1))).bind fun bt198 => (if bt198.1 = bt196.1 then (spec_l20Syndrome.j0 k a1 t191 s0_0 bt198.2) else (if 0 ≤ bt196.1 then (if bt196.1 < (t191.length : Int) then (if 0 ≤ bt198.1 then (if bt198.1 < ((rd_L2 t191 bt196.1).length : Int) then (spec_l20Syndrome.j0 k a1 (t191.set (bt196.1 : Int).toNat ((rd_L2 t191 bt196.1).set (bt198.1 : Int).toNat (wrap64 (1 - (rd (rd_L2 t191 bt196.1) bt198.1))))) s0_0 bt198.2) else (none)) else (none)) else (none)) else (none))))) else (spec_l20Syndrome.j0 k a1 t191 s0_0 bt194.2)))))))) else (none))) = some (r1, r2) := h
  clear h
  replace H := Option.bind_eq_some_iff.mp H
  obtain ⟨⟨t181, t182⟩, A30, H⟩ := H
  replace H : (if 0 ≤ (wrap64 (1 + t181)) then ((spec_l20Rd_pick.f k s0_0 t182 (shl .i64 1 (wrap64 (1 + t181)))).bind fun bt183 => ((spec_l20Rd_pick.f k s0_0 bt183.2 (shl .i64 1 (wrap64 (1 + t181)))).bind fun bt185 => ((spec_l20Rd_pick.f k s0_0 bt185.2 256).bind fun bt187 => ((spec_l20Rd_pick.f k s0_0 bt187.2 256).bind fun bt189 => ((spec_MadeSyndrome.f k (wrap64 (1 + t181)) (Go.bits .and .i64 bt183.1 bt185.1) (wrap64 ((wrap64 (bt187.1 * 256)) + bt189.1))).bind fun t191 => ((spec_l20Rd_pick.f k s0_0 bt189.2 4).bind fun bt194 => (if bt194.1 = 0 then ((spec_l20Rd_pick.f k s0_0 bt194.2 (wrap64 (1 + t181))).bind fun bt196 => ((spec_l20Rd_pick.f k s0_0 bt196.2 (wrap64 (1 + t181))).bind fun bt198 => (if bt198.1 = bt196.1 then (spec_l20Syndrome.j0 k a1 t191 s0_0 bt198.2) else (if 0 ≤ bt196.1 then (if bt196.1 < (t191.length : Int) then (if 0 ≤ bt198.1 then (if bt198.1 < ((rd_L2 t191 bt196.1).length : Int) then (spec_l20Syndrome.j0 k a1 (t191.set (bt196.1 : Int).toNat ((rd_L2 t191 bt196.1).set (bt198.1 : Int).toNat (wrap64 (1 - (rd (rd_L2 t191 bt196.1) bt198.1))))) s0_0 bt198.2) else (none)) else (none)) else (none)) else (none))))) else (spec_l20Syndrome.j0 k a1 t191 s0_0 bt194.2)))))))) else (none)) = some (r1, r2) := H
  have A3 := Aside0.mk A30
  clear A30
  obtain ⟨ji4, hji4⟩ : ∃ j_ : Int, (wrap64 (1 + t181)) = j_ := ⟨_, rfl⟩
  replace H : (if 0 ≤ (ji4) then ((spec_l20Rd_pick.f k s0_0 t182 (shl .i64 1 (ji4))).bind fun bt183 => ((spec_l20Rd_pick.f k s0_0 bt183.2 (shl .i64 1 (ji4))).bind fun bt185 => ((spec_l20Rd_pick.f k s0_0 bt185.2 256).bind fun bt187 => ((spec_l20Rd_pick.f k s0_0 bt187.2 256).bind fun bt189 => ((spec_MadeSyndrome.f k (ji4) (Go.bits .and .i64 bt183.1 bt185.1) (wrap64 ((wrap64 (bt187.1 * 256)) + bt189.1))).bind fun t191 => ((spec_l20Rd_pick.f k s0_0 bt189.2 4).bind fun bt194 => (if bt194.1 = 0 then ((spec_l20Rd_pick.f k s0_0 bt194.2 (ji4)).bind fun bt196 => ((spec_l20Rd_pick.f k s0_0 bt196.2 (ji4)).bind fun bt198 => (if bt198.1 = bt196.1 then (spec_l20Syndrome.j0 k a1 t191 s0_0 bt198.2) else (if 0 ≤ bt196.1 then (if bt196.1 < (t191.length : Int) then (if 0 ≤ bt198.1 then (if bt198.1 < ((rd_L2 t191 bt196.1).length : Int) then (spec_l20Syndrome.j0 k a1 (t191.set (bt196.1 : Int).toNat ((rd_L2 t191 bt196.1).set (bt198.1 : Int).toNat (wrap64 (1 - (rd (rd_L2 t191 bt196.1) bt198.1))))) s0_0 bt198.2) else (none)) else (none)) else (none)) else (none))))) else (spec_l20Syndrome.j0 k a1 t191 s0_0 bt194.2)))))))) else (none)) = some (r1, r2) := by first | (rw [hji4] at H; exact H) | (simp only [hji4] at H ⊢; exact H)
  (try rw [hji4] at A3)
  have hji4w : (IntKind.i64.wrap (1 + t181)) = ji4 := (i64_w _).trans hji4
  by_cases c5 : 0 ≤ (ji4)
  · rw [if_pos c5] at H
    have c5b0 := eq_true c5
    have c5b1 : decide (0 ≤ (ji4)) = true := decide_eq_true c5
    clear c5
    obtain ⟨ji6, hji6⟩ : ∃ j_ : Int, (shl .i64 1 (ji4)) = j_ := ⟨_, rfl⟩
    replace H : ((spec_l20Rd_pick.f k s0_0 t182 (ji6)).bind fun bt183 => ((spec_l20Rd_pick.f k s0_0 bt183.2 (ji6)).bind fun bt185 => ((spec_l20Rd_pick.f k s0_0 bt185.2 256).bind fun bt187 => ((spec_l20Rd_pick.f k s0_0 bt187.2 256).bind fun bt189 => ((spec_MadeSyndrome.f k (ji4) (Go.bits .and .i64 bt183.1 bt185.1) (wrap64 ((wrap64 (bt187.1 * 256)) + bt189.1))).bind fun t191 => ((spec_l20Rd_pick.f k s0_0 bt189.2 4).bind fun bt194 => (if bt194.1 = 0 then ((spec_l20Rd_pick.f k s0_0 bt194.2 (ji4)).bind fun bt196 => ((spec_l20Rd_pick.f k s0_0 bt196.2 (ji4)).bind fun bt198 => (if bt198.1 = bt196.1 then (spec_l20Syndrome.j0 k a1 t191 s0_0 bt198.2) else (if 0 ≤ bt196.1 then (if bt196.1 < (t191.length : Int) then (if 0 ≤ bt198.1 then (if bt198.1 < ((rd_L2 t191 bt196.1).length : Int) then (spec_l20Syndrome.j0 k a1 (t191.set (bt196.1 : Int).toNat ((rd_L2 t191 bt196.1).set (bt198.1 : Int).toNat (wrap64 (1 - (rd (rd_L2 t191 bt196.1) bt198.1))))) s0_0 bt198.2) else (none)) else (none)) else (none)) else (none))))) else (spec_l20Syndrome.j0 k a1 t191 s0_0 bt194.2)))))))) = some (r1, r2) := by first | (rw [hji6] at H; exact H) | (simp only [hji6] at H ⊢; exact H)
    (try rw [hji6] at A3)
    have hji6_ : (IntKind.i64.wrap (1 * 2 ^ min (ji4).toNat 64)) = ji6 := hji6
    have hji6z : (ji4) ≤ 64 → (IntKind.i64.wrap (1 * 2 ^ (ji4).toNat)) = ji6 := shl_small hji6
    have hji6u : (IntKind.i64.wrap (2 ^ min (ji4).toNat 64)) = ji6 := by have h_ := hji6_; rw [Int.one_mul] at h_; exact h_
    have hji6v : (ji4) ≤ 64 → (IntKind.i64.wrap (2 ^ (ji4).toNat)) = ji6 := fun hle_ => by have h_ := hji6z hle_; rw [Int.one_mul] at h_; exact h_
    have hji6y : (wrap64 (1 * 2 ^ min (ji4).toNat 64)) = ji6 := (i64_w _).symm.trans hji6_
    have hji6x : (ji4) ≤ 64 → (wrap64 (1 * 2 ^ (ji4).toNat)) = ji6 := fun h_ => (i64_w _).symm.trans (hji6z h_)
    replace H := Option.bind_eq_some_iff.mp H
    obtain ⟨⟨t183, t184⟩, A70, H⟩ := H
    replace H : ((spec_l20Rd_pick.f k s0_0 t184 (ji6)).bind fun bt185 => ((spec_l20Rd_pick.f k s0_0 bt185.2 256).bind fun bt187 => ((spec_l20Rd_pick.f k s0_0 bt187.2 256).bind fun bt189 => ((spec_MadeSyndrome.f k (ji4) (Go.bits .and .i64 t183 bt185.1) (wrap64 ((wrap64 (bt187.1 * 256)) + bt189.1))).bind fun t191 => ((spec_l20Rd_pick.f k s0_0 bt189.2 4).bind fun bt194 => (if bt194.1 = 0 then ((spec_l20Rd_pick.f k s0_0 bt194.2 (ji4)).bind fun bt196 => ((spec_l20Rd_pick.f k s0_0 bt196.2 (ji4)).bind fun bt198 => (if bt198.1 = bt196.1 then (spec_l20Syndrome.j0 k a1 t191 s0_0 bt198.2) else (if 0 ≤ bt196.1 then (if bt196.1 < (t191.length : Int) then (if 0 ≤ bt198.1 then (if bt198.1 < ((rd_L2 t191 bt196.1).length : Int) then (spec_l20Syndrome.j0 k a1 (t191.set (bt196.1 : Int).toNat ((rd_L2 t191 bt196.1).set (bt198.1 : Int).toNat (wrap64 (1 - (rd (rd_L2 t191 bt196.1) bt198.1))))) s0_0 bt198.2) else (none)) else (none)) else (none)) else (none))))) else (spec_l20Syndrome.j0 k a1 t191 s0_0 bt194.2))))))) = some (r1, r2) := H
    have A7 := Aside0.mk A70
    clear A70
    have c8b0 := eq_true (of_decide_eq_true (by first | (with_reducible assumption) | assumption) : 0 ≤ (ji4))
    replace H := Option.bind_eq_some_iff.mp H
    obtain ⟨⟨t185, t186⟩, A90, H⟩ := H
    replace H : ((spec_l20Rd_pick.f k s0_0 t186 256).bind fun bt187 => ((spec_l20Rd_pick.f k s0_0 bt187.2 256).bind fun bt189 => ((spec_MadeSyndrome.f k (ji4) (Go.bits .and .i64 t183 t185) (wrap64 ((wrap64 (bt187.1 * 256)) + bt189.1))).bind fun t191 => ((spec_l20Rd_pick.f k s0_0 bt189.2 4).bind fun bt194 => (if bt194.1 = 0 then ((spec_l20Rd_pick.f k s0_0 bt194.2 (ji4)).bind fun bt196 => ((spec_l20Rd_pick.f k s0_0 bt196.2 (ji4)).bind fun bt198 => (if bt198.1 = bt196.1 then (spec_l20Syndrome.j0 k a1 t191 s0_0 bt198.2) else (if 0 ≤ bt196.1 then (if bt196.1 < (t191.length : Int) then (if 0 ≤ bt198.1 then (if bt198.1 < ((rd_L2 t191 bt196.1).length : Int) then (spec_l20Syndrome.j0 k a1 (t191.set (bt196.1 : Int).toNat ((rd_L2 t191 bt196.1).set (bt198.1 : Int).toNat (wrap64 (1 - (rd (rd_L2 t191 bt196.1) bt198.1))))) s0_0 bt198.2) else (none)) else (none)) else (none)) else (none))))) else (spec_l20Syndrome.j0 k a1 t191 s0_0 bt194.2)))))) = some (r1, r2) := H
    have A9 := Aside0.mk A90
    clear A90
    replace H := Option.bind_eq_some_iff.mp H
    obtain ⟨⟨t187, t188⟩, A100, H⟩ := H
    replace H : ((spec_l20Rd_pick.f k s0_0 t188 256).bind fun bt189 => ((spec_MadeSyndrome.f k (ji4) (Go.bits .and .i64 t183 t185) (wrap64 ((wrap64 (t187 * 256)) + bt189.1))).bind fun t191 => ((spec_l20Rd_pick.f k s0_0 bt189.2 4).bind fun bt194 => (if bt194.1 = 0 then ((spec_l20Rd_pick.f k s0_0 bt194.2 (ji4)).bind fun bt196 => ((spec_l20Rd_pick.f k s0_0 bt196.2 (ji4)).bind fun bt198 => (if bt198.1 = bt196.1 then (spec_l20Syndrome.j0 k a1 t191 s0_0 bt198.2) else (if 0 ≤ bt196.1 then (if bt196.1 < (t191.length : Int) then (if 0 ≤ bt198.1 then (if bt198.1 < ((rd_L2 t191 bt196.1).length : Int) then (spec_l20Syndrome.j0 k a1 (t191.set (bt196.1 : Int).toNat ((rd_L2 t191 bt196.1).set (bt198.1 : Int).toNat (wrap64 (1 - (rd (rd_L2 t191 bt196.1) bt198.1))))) s0_0 bt198.2) else (none)) else (none)) else (none)) else (none))))) else (spec_l20Syndrome.j0 k a1 t191 s0_0 bt194.2))))) = some (r1, r2) := H
    have A10 := Aside0.mk A100
    clear A100
    replace H := Option.bind_eq_some_iff.mp H
    obtain ⟨⟨t189, t190⟩, A110, H⟩ := H
    replace H : ((spec_MadeSyndrome.f k (ji4) (Go.bits .and .i64 t183 t185) (wrap64 ((wrap64 (t187 * 256)) + t189))).bind fun t191 => ((spec_l20Rd_pick.f k s0_0 t190 4).bind fun bt194 => (if bt194.1 = 0 then ((spec_l20Rd_pick.f k s0_0 bt194.2 (ji4)).bind fun bt196 => ((spec_l20Rd_pick.f k s0_0 bt196.2 (ji4)).bind fun bt198 => (if bt198.1 = bt196.1 then (spec_l20Syndrome.j0 k a1 t191 s0_0 bt198.2) else (if 0 ≤ bt196.1 then (if bt196.1 < (t191.length : Int) then (if 0 ≤ bt198.1 then (if bt198.1 < ((rd_L2 t191 bt196.1).length : Int) then (spec_l20Syndrome.j0 k a1 (t191.set (bt196.1 : Int).toNat ((rd_L2 t191 bt196.1).set (bt198.1 : Int).toNat (wrap64 (1 - (rd (rd_L2 t191 bt196.1) bt198.1))))) s0_0 bt198.2) else (none)) else (none)) else (none)) else (none))))) else (spec_l20Syndrome.j0 k a1 t191 s0_0 bt194.2)))) = some (r1, r2) := H
    have A11 := Aside0.mk A110
    clear A110
    replace H := Option.bind_eq_some_iff.mp H
    obtain ⟨t191, A120, H⟩ := H
    replace H : ((spec_l20Rd_pick.f k s0_0 t190 4).bind fun bt194 => (if bt194.1 = 0 then ((spec_l20Rd_pick.f k s0_0 bt194.2 (ji4)).bind fun bt196 => ((spec_l20Rd_pick.f k s0_0 bt196.2 (ji4)).bind fun bt198 => (if bt198.1 = bt196.1 then (spec_l20Syndrome.j0 k a1 t191 s0_0 bt198.2) else (if 0 ≤ bt196.1 then (if bt196.1 < (t191.length : Int) then (if 0 ≤ bt198.1 then (if bt198.1 < ((rd_L2 t191 bt196.1).length : Int) then (spec_l20Syndrome.j0 k a1 (t191.set (bt196.1 : Int).toNat ((rd_L2 t191 bt196.1).set (bt198.1 : Int).toNat (wrap64 (1 - (rd (rd_L2 t191 bt196.1) bt198.1))))) s0_0 bt198.2) else (none)) else (none)) else (none)) else (none))))) else (spec_l20Syndrome.j0 k a1 t191 s0_0 bt194.2))) = some (r1, r2) := H
    have A12 := Aside0.mk A120
    clear A120
    replace H := Option.bind_eq_some_iff.mp H
    obtain ⟨⟨t194, t195⟩, A130, H⟩ := H
    replace H : (if t194 = 0 then ((spec_l20Rd_pick.f k s0_0 t195 (ji4)).bind fun bt196 => ((spec_l20Rd_pick.f k s0_0 bt196.2 (ji4)).bind fun bt198 => (if bt198.1 = bt196.1 then (spec_l20Syndrome.j0 k a1 t191 s0_0 bt198.2) else (if 0 ≤ bt196.1 then (if bt196.1 < (t191.length : Int) then (if 0 ≤ bt198.1 then (if bt198.1 < ((rd_L2 t191 bt196.1).length : Int) then (spec_l20Syndrome.j0 k a1 (t191.set (bt196.1 : Int).toNat ((rd_L2 t191 bt196.1).set (bt198.1 : Int).toNat (wrap64 (1 - (rd (rd_L2 t191 bt196.1) bt198.1))))) s0_0 bt198.2) else (none)) else (none)) else (none)) else (none))))) else (spec_l20Syndrome.j0 k a1 t191 s0_0 t195)) = some (r1, r2) := H
    have A13 := Aside0.mk A130
    clear A130
    have HC14 := Aside0.mk H
    clear H
    go_enter Try.func59, Try.ntmps59
    try go_wp2_with (first | ((with_reducible refine gate_callee (f := 55) rfl ?_); refine goesL_ (some 10) rfl rfl Try.func55 (by kernel_rfl) rfl #[.pointer (some ⟨g, 0, none⟩), .int .i64 5] rfl (by (try simp only [List.map_toArray, List.map_cons, List.map_nil]); first | done | rfl | (simp only [List.length_drop, List.length_take]; rfl)) ?_; (with_reducible refine (spec_l20Rd_pick.calls k g s0_0 s0_1 5 t181 t182 w0 _ ?side1 ?side2 A3.out).mono ?_); (case side1 => repeat (first | (with_reducible first | exact HI0.out | apply IsS57.alloc | apply IsS57.drewN | apply IsS57.drew | apply IsS57.set_1) | exact HI0.out)); (case side2 => repeat (first | (with_reducible first | exact HB.out | apply below_alloc | apply pw_below_drewN | apply below_drew1 | refine below_set ?_ (IsS57.ge HI0.out)) | exact HB.out)); rintro e w15 ⟨rfl, hi, hb, hk⟩; refine ⟨_, rfl, ?_⟩; have n0_ := Aside0.mk (KeepBut.trans (by repeat (first | (with_reducible first | exact HK.out | apply KeepBut.set_ | apply keep_drewN | apply keep_drew | apply keep_alloc) | exact HK.out)) hk (.inl rfl)); have n1_ := Aside0.mk (hb); have n2_ := Aside0.mk (hi); clear HK; clear HB; clear HI0; have HK := n0_; have HB := n1_; have HI0 := n2_; clear n0_ n1_ n2_; (try clear hb); (try clear hb2); (try clear hk); (try clear hi)))
    have n0_ := Aside0.mk (IsS57.drew HI0.out)
    have n1_ := Aside0.mk (keep_drew HK.out)
    have n2_ := Aside0.mk (below_drew1 HB.out)
    clear HI0
    clear HK
    clear HB
    have HI0 := n0_
    have HK := n1_
    have HB := n2_
    clear n0_ n1_ n2_
    refine start_ (n := 18) (S := fun w' => True) (ds := []) #[false, false, false, false, false, false, false, false, false, false, false, false, false, false, false, false, false, false] (by kernel_rfl) rfl rfl trivial (fun hHeld => ?_); refine with_tabW spec_l20Syndrome.tab2 spec_l20Syndrome.bits2 (fun HT_ HW_ => ?_)
    generalize w15.drew = w16 at HI0 HK HB hHeld ⊢
    refine pure_ (i := 0) (N := some 12) (v := ?_) (a' := ?_) #[true, false, false, false, false, false, false, false, false, false, false, false, false, false, false, false, false, false] rfl rfl (any_of HT_.out (by kernel_rfl)) (fun _ _ _ h => h) (Or.inl ⟨by rfl, ?_⟩) ?_ ?_
    rotate_left
    · intro w'
      go_simp
      with_reducible rfl
    rotate_left
    · simp only [Act.put, List.setIfInBounds_toArray, List.set_cons_zero, List.set_cons_succ, i64_w, i32_w]
      rfl
    refine pure_ (i := 1) (N := some 13) (v := ?_) (a' := ?_) #[true, true, false, false, false, false, false, false, false, false, false, false, false, false, false, false, false, false] rfl rfl (any_of HT_.out (by kernel_rfl)) (fun _ _ _ h => h) (Or.inl ⟨by rfl, ?_⟩) ?_ ?_
    rotate_left
    · intro w'
      go_simp
      with_reducible rfl
    rotate_left
    · simp only [Act.put, List.setIfInBounds_toArray, List.set_cons_zero, List.set_cons_succ, i64_w, i32_w]
      rfl
    refine pure_ (i := 2) (N := some 14) (v := ?_) (a' := ?_) #[true, true, true, false, false, false, false, false, false, false, false, false, false, false, false, false, false, false] rfl rfl (any_of HT_.out (by kernel_rfl)) (fun _ _ _ h => h) (Or.inl ⟨by rfl, ?_⟩) ?_ ?_
    rotate_left
    · intro w'
      go_simp
      with_reducible rfl
    rotate_left
    · simp only [Act.put, List.setIfInBounds_toArray, List.set_cons_zero, List.set_cons_succ, i64_w, i32_w]
      rfl
    refine pure_ (i := 3) (N := some 15) (v := ?_) (a' := ?_) #[true, true, true, true, false, false, false, false, false, false, false, false, false, false, false, false, false, false] rfl rfl (any_of HT_.out (by kernel_rfl)) (fun _ _ _ h => h) (Or.inl ⟨by rfl, ?_⟩) ?_ ?_
    rotate_left
    · intro w'
      go_simp
      with_reducible rfl
    rotate_left
    · simp only [Act.put, List.setIfInBounds_toArray, List.set_cons_zero, List.set_cons_succ, i64_w, i32_w]
      rfl
    refine pure_ (i := 5) (N := some 17) (v := ?_) (a' := ?_) #[true, true, true, true, false, true, false, false, false, false, false, false, false, false, false, false, false, false] rfl rfl (any_of HT_.out (by kernel_rfl)) (fun _ _ _ h => h) (Or.inl ⟨by rfl, ?_⟩) ?_ ?_
    rotate_left
    · intro w'
      go_simp
      with_reducible rfl
    rotate_left
    · simp only [Act.put, List.setIfInBounds_toArray, List.set_cons_zero, List.set_cons_succ, i64_w, i32_w]
      rfl
    refine pure_ (i := 6) (N := some 18) (v := ?_) (a' := ?_) #[true, true, true, true, false, true, true, false, false, false, false, false, false, false, false, false, false, false] rfl rfl (any_of HT_.out (by kernel_rfl)) (fun _ _ _ h => h) (Or.inl ⟨by rfl, ?_⟩) ?_ ?_
    rotate_left
    · intro w'
      go_simp
      with_reducible rfl
    rotate_left
    · simp only [Act.put, List.setIfInBounds_toArray, List.set_cons_zero, List.set_cons_succ, i64_w, i32_w]
      rfl
    refine pure_ (i := 7) (N := some 19) (v := ?_) (a' := ?_) #[true, true, true, true, false, true, true, true, false, false, false, false, false, false, false, false, false, false] rfl rfl (any_of HT_.out (by kernel_rfl)) (fun _ _ _ h => h) (Or.inl ⟨by rfl, ?_⟩) ?_ ?_
    rotate_left
    · intro w'
      go_simp
      with_reducible rfl
    rotate_left
    · simp only [Act.put, List.setIfInBounds_toArray, List.set_cons_zero, List.set_cons_succ, i64_w, i32_w]
      rfl
    refine pure_ (i := 10) (N := some 22) (v := ?_) (a' := ?_) #[true, true, true, true, false, true, true, true, false, false, true, false, false, false, false, false, false, false] rfl rfl (any_of HT_.out (by kernel_rfl)) (fun _ _ _ h => h) (Or.inl ⟨by rfl, ?_⟩) ?_ ?_
    rotate_left
    · intro w'
      go_simp
      with_reducible rfl
    rotate_left
    · simp only [Act.put, List.setIfInBounds_toArray, List.set_cons_zero, List.set_cons_succ, i64_w, i32_w]
      rfl
    refine pure_ (i := 13) (N := some 25) (v := ?_) (a' := ?_) #[true, true, true, true, false, true, true, true, false, false, true, false, false, true, false, false, false, false] rfl rfl (any_of HT_.out (by kernel_rfl)) (fun _ _ _ h => h) (Or.inl ⟨by rfl, ?_⟩) ?_ ?_
    rotate_left
    · intro w'
      go_simp
      with_reducible rfl
    rotate_left
    · simp only [Act.put, List.setIfInBounds_toArray, List.set_cons_zero, List.set_cons_succ, i64_w, i32_w]
      rfl
    refine one_ (i := 4) (N := some 16) #[true, true, true, true, true, true, true, true, false, false, true, false, false, true, false, false, false, false] rfl rfl (one_of HT_.out (by kernel_rfl)) (by decide) (fun K hK => ?_)
    refine goes_ Try.func55 (by kernel_rfl) rfl #[.pointer (some ⟨g, 0, none⟩), .int .i64 ji6] (by rfl) rfl rfl (by (try simp only [List.map_toArray, List.map_cons, List.map_nil]); first | done | (simp only [hji6]; rfl) | rfl | (simp only [List.length_drop, List.length_take]; rfl)) ?_
    with_reducible refine (spec_l20Rd_pick.calls k g s0_0 t182 ji6 t183 t184 w0 _ ?side1 ?side2 A7.out).mono ?_
    (case side1 => repeat (first | (with_reducible first | exact HI0.out | apply IsS57.alloc | apply IsS57.drewN | apply IsS57.drew | apply IsS57.set_1) | exact HI0.out))
    (case side2 => repeat (first | (with_reducible first | exact HB.out | apply below_alloc | apply pw_below_drewN | apply below_drew1 | refine below_set ?_ (IsS57.ge HI0.out)) | exact HB.out))
    rintro e w17 ⟨rfl, hi, hb, hk⟩
    refine ⟨_, rfl, ?_⟩
    have n0_ := Aside0.mk (KeepBut.trans (by repeat (first | (with_reducible first | exact HK.out | apply KeepBut.set_ | apply keep_drewN | apply keep_drew | apply keep_alloc) | exact HK.out)) hk (.inl rfl))
    have n1_ := Aside0.mk (hb)
    have n2_ := Aside0.mk (hi)
    clear HK
    clear HB
    clear HI0
    have HK := n0_
    have HB := n1_
    have HI0 := n2_
    clear n0_ n1_ n2_
    (try clear hb)
    (try clear hb2)
    (try clear hk)
    (try clear hi)
    refine hK.out _ _ trivial (fun hHeld => ?_)
    clear hK K
    refine norm_ (a' := ?_) ?_ ?_
    rotate_left
    · show Act.put _ (some 16) _ = _
      simp only [Act.put, List.setIfInBounds_toArray, List.set_cons_zero, List.set_cons_succ, i64_w, i32_w]
      rfl
    refine one_ (i := 8) (N := some 20) #[true, true, true, true, true, true, true, true, true, false, true, false, false, true, false, false, false, false] rfl rfl (one_of HT_.out (by kernel_rfl)) (by decide) (fun K hK => ?_)
    refine goes_ Try.func55 (by kernel_rfl) rfl #[.pointer (some ⟨g, 0, none⟩), .int .i64 ji6] (by rfl) rfl rfl (by (try simp only [List.map_toArray, List.map_cons, List.map_nil]); first | done | (simp only [hji6]; rfl) | rfl | (simp only [List.length_drop, List.length_take]; rfl)) ?_
    with_reducible refine (spec_l20Rd_pick.calls k g s0_0 t184 ji6 t185 t186 w0 _ ?side1 ?side2 A9.out).mono ?_
    (case side1 => repeat (first | (with_reducible first | exact HI0.out | apply IsS57.alloc | apply IsS57.drewN | apply IsS57.drew | apply IsS57.set_1) | exact HI0.out))
    (case side2 => repeat (first | (with_reducible first | exact HB.out | apply below_alloc | apply pw_below_drewN | apply below_drew1 | refine below_set ?_ (IsS57.ge HI0.out)) | exact HB.out))
    rintro e w18 ⟨rfl, hi, hb, hk⟩
    refine ⟨_, rfl, ?_⟩
    have n0_ := Aside0.mk (KeepBut.trans (by repeat (first | (with_reducible first | exact HK.out | apply KeepBut.set_ | apply keep_drewN | apply keep_drew | apply keep_alloc) | exact HK.out)) hk (.inl rfl))
    have n1_ := Aside0.mk (hb)
    have n2_ := Aside0.mk (hi)
    clear HK
    clear HB
    clear HI0
    have HK := n0_
    have HB := n1_
    have HI0 := n2_
    clear n0_ n1_ n2_
    (try clear hb)
    (try clear hb2)
    (try clear hk)
    (try clear hi)
    refine hK.out _ _ trivial (fun hHeld => ?_)
    clear hK K
    refine norm_ (a' := ?_) ?_ ?_
    rotate_left
    · show Act.put _ (some 20) _ = _
      simp only [Act.put, List.setIfInBounds_toArray, List.set_cons_zero, List.set_cons_succ, i64_w, i32_w]
      rfl
    refine pure_ (i := 9) (N := some 21) (v := ?_) (a' := ?_) #[true, true, true, true, true, true, true, true, true, true, true, false, false, true, false, false, false, false] rfl rfl (any_of HT_.out (by kernel_rfl)) (fun _ _ _ h => h) (Or.inl ⟨by rfl, ?_⟩) ?_ ?_
    rotate_left
    · intro w'
      go_simp
      with_reducible rfl
    rotate_left
    · simp only [Act.put, List.setIfInBounds_toArray, List.set_cons_zero, List.set_cons_succ, i64_w, i32_w]
      rfl
    refine one_ (i := 11) (N := some 23) #[true, true, true, true, true, true, true, true, true, true, true, true, false, true, false, false, false, false] rfl rfl (one_of HT_.out (by kernel_rfl)) (by decide) (fun K hK => ?_)
    refine goes_ Try.func55 (by kernel_rfl) rfl #[.pointer (some ⟨g, 0, none⟩), .int .i64 256] (by rfl) rfl rfl (by (try simp only [List.map_toArray, List.map_cons, List.map_nil]); first | done | rfl | (simp only [List.length_drop, List.length_take]; rfl)) ?_
    with_reducible refine (spec_l20Rd_pick.calls k g s0_0 t186 256 t187 t188 w0 _ ?side1 ?side2 A10.out).mono ?_
    (case side1 => repeat (first | (with_reducible first | exact HI0.out | apply IsS57.alloc | apply IsS57.drewN | apply IsS57.drew | apply IsS57.set_1) | exact HI0.out))
    (case side2 => repeat (first | (with_reducible first | exact HB.out | apply below_alloc | apply pw_below_drewN | apply below_drew1 | refine below_set ?_ (IsS57.ge HI0.out)) | exact HB.out))
    rintro e w19 ⟨rfl, hi, hb, hk⟩
    refine ⟨_, rfl, ?_⟩
    have n0_ := Aside0.mk (KeepBut.trans (by repeat (first | (with_reducible first | exact HK.out | apply KeepBut.set_ | apply keep_drewN | apply keep_drew | apply keep_alloc) | exact HK.out)) hk (.inl rfl))
    have n1_ := Aside0.mk (hb)
    have n2_ := Aside0.mk (hi)
    clear HK
    clear HB
    clear HI0
    have HK := n0_
    have HB := n1_
    have HI0 := n2_
    clear n0_ n1_ n2_
    (try clear hb)
    (try clear hb2)
    (try clear hk)
    (try clear hi)
    refine hK.out _ _ trivial (fun hHeld => ?_)
    clear hK K
    refine norm_ (a' := ?_) ?_ ?_
    rotate_left
    · show Act.put _ (some 23) _ = _
      simp only [Act.put, List.setIfInBounds_toArray, List.set_cons_zero, List.set_cons_succ, i64_w, i32_w]
      rfl
    refine pure_ (i := 12) (N := some 24) (v := ?_) (a' := ?_) #[true, true, true, true, true, true, true, true, true, true, true, true, true, true, false, false, false, false] rfl rfl (any_of HT_.out (by kernel_rfl)) (fun _ _ _ h => h) (Or.inl ⟨by rfl, ?_⟩) ?_ ?_
    rotate_left
    · intro w'
      go_simp
      with_reducible rfl
    rotate_left
    · simp only [Act.put, List.setIfInBounds_toArray, List.set_cons_zero, List.set_cons_succ, i64_w, i32_w]
      rfl
    refine one_ (i := 14) (N := some 26) #[true, true, true, true, true, true, true, true, true, true, true, true, true, true, true, false, false, false] rfl rfl (one_of HT_.out (by kernel_rfl)) (by decide) (fun K hK => ?_)
    refine goes_ Try.func55 (by kernel_rfl) rfl #[.pointer (some ⟨g, 0, none⟩), .int .i64 256] (by rfl) rfl rfl (by (try simp only [List.map_toArray, List.map_cons, List.map_nil]); first | done | rfl | (simp only [List.length_drop, List.length_take]; rfl)) ?_
    with_reducible refine (spec_l20Rd_pick.calls k g s0_0 t188 256 t189 t190 w0 _ ?side1 ?side2 A11.out).mono ?_
    (case side1 => repeat (first | (with_reducible first | exact HI0.out | apply IsS57.alloc | apply IsS57.drewN | apply IsS57.drew | apply IsS57.set_1) | exact HI0.out))
    (case side2 => repeat (first | (with_reducible first | exact HB.out | apply below_alloc | apply pw_below_drewN | apply below_drew1 | refine below_set ?_ (IsS57.ge HI0.out)) | exact HB.out))
    rintro e w20 ⟨rfl, hi, hb, hk⟩
    refine ⟨_, rfl, ?_⟩
    have n0_ := Aside0.mk (KeepBut.trans (by repeat (first | (with_reducible first | exact HK.out | apply KeepBut.set_ | apply keep_drewN | apply keep_drew | apply keep_alloc) | exact HK.out)) hk (.inl rfl))
    have n1_ := Aside0.mk (hb)
    have n2_ := Aside0.mk (hi)
    clear HK
    clear HB
    clear HI0
    have HK := n0_
    have HB := n1_
    have HI0 := n2_
    clear n0_ n1_ n2_
    (try clear hb)
    (try clear hb2)
    (try clear hk)
    (try clear hi)
    refine hK.out _ _ trivial (fun hHeld => ?_)
    clear hK K
    refine norm_ (a' := ?_) ?_ ?_
    rotate_left
    · show Act.put _ (some 26) _ = _
      simp only [Act.put, List.setIfInBounds_toArray, List.set_cons_zero, List.set_cons_succ, i64_w, i32_w]
      rfl
    refine pure_ (i := 15) (N := some 27) (v := ?_) (a' := ?_) #[true, true, true, true, true, true, true, true, true, true, true, true, true, true, true, true, false, false] rfl rfl (any_of HT_.out (by kernel_rfl)) (fun _ _ _ h => h) (Or.inl ⟨by rfl, ?_⟩) ?_ ?_
    rotate_left
    · intro w'
      go_simp
      with_reducible rfl
    rotate_left
    · simp only [Act.put, List.setIfInBounds_toArray, List.set_cons_zero, List.set_cons_succ, i64_w, i32_w]
      rfl
    refine one_ (i := 16) (N := some 28) #[true, true, true, true, true, true, true, true, true, true, true, true, true, true, true, true, true, false] rfl rfl (one_of HT_.out (by kernel_rfl)) (by decide) (fun K hK => ?_)
    refine goes_ Try.func28 (by kernel_rfl) rfl #[.int .i64 ji4, .int .i64 (Go.bits .and .i64 t183 t185), .int .i64 (wrap64 ((wrap64 (t187 * 256)) + t189))] (by rfl) rfl rfl (by (try simp only [List.map_toArray, List.map_cons, List.map_nil]); first | done | (simp only [hji4]; rfl) | rfl | (simp only [List.length_drop, List.length_take]; rfl)) ?_
    with_reducible refine (spec_MadeSyndrome.calls k ji4 (Go.bits .and .i64 t183 t185) (wrap64 ((wrap64 (t187 * 256)) + t189)) t191 _ A12.out).mono ?_
    rintro e w21 ⟨v192, rfl, ho0, hb⟩
    refine ⟨_, rfl, ?_⟩
    have n0_ := Aside0.mk (Kd.S_lower ho0 (keep_size (w := w) (g := g) (row := none) (by repeat (first | (with_reducible first | exact HK.out | apply KeepBut.set_ | apply keep_drewN | apply keep_drew | apply keep_alloc) | exact HK.out))))
    have n1_ := Aside0.mk (IsS57.below (by repeat (first | (with_reducible first | exact HI0.out | apply IsS57.alloc | apply IsS57.drewN | apply IsS57.drew | apply IsS57.set_1) | exact HI0.out)) hb)
    have n2_ := Aside0.mk (KeepBut.trans (by repeat (first | (with_reducible first | exact HK.out | apply KeepBut.set_ | apply keep_drewN | apply keep_drew | apply keep_alloc) | exact HK.out)) (KeepBut.of_below hb g none) (.inl rfl))
    have n3_ := Aside0.mk (below_step (by repeat (first | (with_reducible first | exact HB.out | apply below_alloc | apply pw_below_drewN | apply below_drew1 | refine below_set ?_ (IsS57.ge HI0.out)) | exact HB.out)) hb)
    clear HI0
    clear HK
    clear HB
    have HO193 := n0_
    have HI0 := n1_
    have HK := n2_
    have HB := n3_
    clear n0_ n1_ n2_ n3_
    (try clear hb)
    (try clear hb2)
    (try clear hk)
    (try clear hi)
    (try clear ho0)
    refine hK.out _ _ trivial (fun hHeld => ?_)
    clear hK K
    refine norm_ (a' := ?_) ?_ ?_
    rotate_left
    · show Act.put _ (some 28) _ = _
      simp only [Act.put, List.setIfInBounds_toArray, List.set_cons_zero, List.set_cons_succ, i64_w, i32_w]
      rfl
    refine pure_ (i := 17) (N := some 6) (v := ?_) (a' := ?_) #[true, true, true, true, true, true, true, true, true, true, true, true, true, true, true, true, true, true] rfl rfl (any_of HT_.out (by kernel_rfl)) (fun _ _ _ h => h) (Or.inl ⟨by rfl, ?_⟩) ?_ ?_
    rotate_left
    · intro w'
      go_simp
      with_reducible rfl
    rotate_left
    · simp only [Act.put, List.setIfInBounds_toArray, List.set_cons_zero, List.set_cons_succ, i64_w, i32_w]
      rfl
    refine done_ (done_of HT_.out (by kernel_rfl)) ?_
    go_upto_if 31 with (first | ((with_reducible refine gate_callee (f := 55) rfl ?_); refine goesL_ (some 30) rfl rfl Try.func55 (by kernel_rfl) rfl #[.pointer (some ⟨g, 0, none⟩), .int .i64 4] rfl (by (try simp only [List.map_toArray, List.map_cons, List.map_nil]); first | done | rfl | (simp only [List.length_drop, List.length_take]; rfl)) ?_; (with_reducible refine (spec_l20Rd_pick.calls k g s0_0 t190 4 t194 t195 w0 _ ?side1 ?side2 A13.out).mono ?_); (case side1 => repeat (first | (with_reducible first | exact HI0.out | apply IsS57.alloc | apply IsS57.drewN | apply IsS57.drew | apply IsS57.set_1) | exact HI0.out)); (case side2 => repeat (first | (with_reducible first | exact HB.out | apply below_alloc | apply pw_below_drewN | apply below_drew1 | refine below_set ?_ (IsS57.ge HI0.out)) | exact HB.out)); rintro e w22 ⟨rfl, hi, hb, hk⟩; refine ⟨_, rfl, ?_⟩; have n0_ := Aside0.mk (Kd.S_mono (Kd.S_keep (IsS57.apartS (show IsS57 w0 _ g s0_0 t190 from by repeat (first | (with_reducible first | exact HI0.out | apply IsS57.alloc | apply IsS57.drewN | apply IsS57.drew | apply IsS57.set_1) | exact HI0.out)) (by (with_reducible repeat (first | apply Kd.S_alloc | apply Kd.S_drewN | apply Kd.S_drew)); exact HO193.out) (by decide)) hk (fun _ h => h.2)) (fun _ h => h.1)); have n1_ := Aside0.mk (KeepBut.trans (by repeat (first | (with_reducible first | exact HK.out | apply KeepBut.set_ | apply keep_drewN | apply keep_drew | apply keep_alloc) | exact HK.out)) hk (.inl rfl)); have n2_ := Aside0.mk (hb); have n3_ := Aside0.mk (hi); clear HO193; clear HK; clear HB; clear HI0; have HO193 := n0_; have HK := n1_; have HB := n2_; have HI0 := n3_; clear n0_ n1_ n2_ n3_; (try clear hb); (try clear hb2); (try clear hk); (try clear hi)))
    (try simp only [Act.put, List.setIfInBounds_toArray, List.set_cons_zero, List.set_cons_succ])
    go_cut [] (fun wc => ∃ (kq : Nat) (x6_13 : List (List Int)) (x1001_13 : Int), Aside0 (spec_l20Syndrome.j0 kq a1 x6_13 s0_0 x1001_13 = some (r1, r2)) ∧ Aside0 (kq ≤ k) ∧ Aside0 (Kd.S (Kd.slice 3 (Kd.int .i64)) 34 wc w.heap.size (fun _ => True) v192 x6_13) ∧ Aside0 (IsS57 w0 wc g s0_0 x1001_13) ∧ Aside0 (KeepBut w wc g none) ∧ Aside0 (Below w0.heap.size w0 wc))
    case first =>
      have H := HC14.out
      clear HC14
      by_cases c23 : t194 = 0
      · rw [if_pos c23] at H
        have c23b0 : (t194 == 0) = true := beq_iff_eq.mpr c23
        have c23b1 : (t194 != 0) = false := bne_eq_false_iff_eq.mpr c23
        clear c23
        (first | rw [c23b0] | (simp only [i64_w, i32_w]; rw [c23b0]) | skip)
        replace H := Option.bind_eq_some_iff.mp H
        obtain ⟨⟨t196, t197⟩, A240, H⟩ := H
        replace H : ((spec_l20Rd_pick.f k s0_0 t197 (ji4)).bind fun bt198 => (if bt198.1 = t196 then (spec_l20Syndrome.j0 k a1 t191 s0_0 bt198.2) else (if 0 ≤ t196 then (if t196 < (t191.length : Int) then (if 0 ≤ bt198.1 then (if bt198.1 < ((rd_L2 t191 t196).length : Int) then (spec_l20Syndrome.j0 k a1 (t191.set (t196 : Int).toNat ((rd_L2 t191 t196).set (bt198.1 : Int).toNat (wrap64 (1 - (rd (rd_L2 t191 t196) bt198.1))))) s0_0 bt198.2) else (none)) else (none)) else (none)) else (none)))) = some (r1, r2) := H
        have A24 := Aside0.mk A240
        clear A240
        replace H := Option.bind_eq_some_iff.mp H
        obtain ⟨⟨t198, t199⟩, A250, H⟩ := H
        replace H : (if t198 = t196 then (spec_l20Syndrome.j0 k a1 t191 s0_0 t199) else (if 0 ≤ t196 then (if t196 < (t191.length : Int) then (if 0 ≤ t198 then (if t198 < ((rd_L2 t191 t196).length : Int) then (spec_l20Syndrome.j0 k a1 (t191.set (t196 : Int).toNat ((rd_L2 t191 t196).set (t198 : Int).toNat (wrap64 (1 - (rd (rd_L2 t191 t196) t198))))) s0_0 t199) else (none)) else (none)) else (none)) else (none))) = some (r1, r2) := H
        have A25 := Aside0.mk A250
        clear A250
        by_cases c26 : t198 = t196
        · rw [if_pos c26] at H
          have c26b0 : (t198 == t196) = true := beq_iff_eq.mpr c26
          have c26b1 : (t198 != t196) = false := bne_eq_false_iff_eq.mpr c26
          clear c26
          have H' := Aside0.mk H
          clear H
          go_wp2_with (first | ((with_reducible refine gate_callee (f := 55) rfl ?_); refine goesL_ (some 34) rfl rfl Try.func55 (by kernel_rfl) rfl #[.pointer (some ⟨g, 0, none⟩), .int .i64 ji4] rfl (by (try simp only [List.map_toArray, List.map_cons, List.map_nil]); first | done | (simp only [hji4]; rfl) | rfl | (simp only [List.length_drop, List.length_take]; rfl)) ?_; (with_reducible refine (spec_l20Rd_pick.calls k g s0_0 t195 ji4 t196 t197 w0 _ ?side1 ?side2 A24.out).mono ?_); (case side1 => repeat (first | (with_reducible first | exact HI0.out | apply IsS57.alloc | apply IsS57.drewN | apply IsS57.drew | apply IsS57.set_1) | exact HI0.out)); (case side2 => repeat (first | (with_reducible first | exact HB.out | apply below_alloc | apply pw_below_drewN | apply below_drew1 | refine below_set ?_ (IsS57.ge HI0.out)) | exact HB.out)); rintro e w27 ⟨rfl, hi, hb, hk⟩; refine ⟨_, rfl, ?_⟩; have n0_ := Aside0.mk (Kd.S_mono (Kd.S_keep (IsS57.apartS (show IsS57 w0 _ g s0_0 t195 from by repeat (first | (with_reducible first | exact HI0.out | apply IsS57.alloc | apply IsS57.drewN | apply IsS57.drew | apply IsS57.set_1) | exact HI0.out)) (by (with_reducible repeat (first | apply Kd.S_alloc | apply Kd.S_drewN | apply Kd.S_drew)); exact HO193.out) (by decide)) hk (fun _ h => h.2)) (fun _ h => h.1)); have n1_ := Aside0.mk (KeepBut.trans (by repeat (first | (with_reducible first | exact HK.out | apply KeepBut.set_ | apply keep_drewN | apply keep_drew | apply keep_alloc) | exact HK.out)) hk (.inl rfl)); have n2_ := Aside0.mk (hb); have n3_ := Aside0.mk (hi); clear HO193; clear HK; clear HB; clear HI0; have HO193 := n0_; have HK := n1_; have HB := n2_; have HI0 := n3_; clear n0_ n1_ n2_ n3_; (try clear hb); (try clear hb2); (try clear hk); (try clear hi)) | ((with_reducible refine gate_callee (f := 55) rfl ?_); refine goesL_ (some 37) rfl rfl Try.func55 (by kernel_rfl) rfl #[.pointer (some ⟨g, 0, none⟩), .int .i64 ji4] rfl (by (try simp only [List.map_toArray, List.map_cons, List.map_nil]); first | done | (simp only [hji4]; rfl) | rfl | (simp only [List.length_drop, List.length_take]; rfl)) ?_; (with_reducible refine (spec_l20Rd_pick.calls k g s0_0 t197 ji4 t198 t199 w0 _ ?side1 ?side2 A25.out).mono ?_); (case side1 => repeat (first | (with_reducible first | exact HI0.out | apply IsS57.alloc | apply IsS57.drewN | apply IsS57.drew | apply IsS57.set_1) | exact HI0.out)); (case side2 => repeat (first | (with_reducible first | exact HB.out | apply below_alloc | apply pw_below_drewN | apply below_drew1 | refine below_set ?_ (IsS57.ge HI0.out)) | exact HB.out)); rintro e w28 ⟨rfl, hi, hb, hk⟩; refine ⟨_, rfl, ?_⟩; have n0_ := Aside0.mk (Kd.S_mono (Kd.S_keep (IsS57.apartS (show IsS57 w0 _ g s0_0 t197 from by repeat (first | (with_reducible first | exact HI0.out | apply IsS57.alloc | apply IsS57.drewN | apply IsS57.drew | apply IsS57.set_1) | exact HI0.out)) (by (with_reducible repeat (first | apply Kd.S_alloc | apply Kd.S_drewN | apply Kd.S_drew)); exact HO193.out) (by decide)) hk (fun _ h => h.2)) (fun _ h => h.1)); have n1_ := Aside0.mk (KeepBut.trans (by repeat (first | (with_reducible first | exact HK.out | apply KeepBut.set_ | apply keep_drewN | apply keep_drew | apply keep_alloc) | exact HK.out)) hk (.inl rfl)); have n2_ := Aside0.mk (hb); have n3_ := Aside0.mk (hi); clear HO193; clear HK; clear HB; clear HI0; have HO193 := n0_; have HK := n1_; have HB := n2_; have HI0 := n3_; clear n0_ n1_ n2_ n3_; (try clear hb); (try clear hb2); (try clear hk); (try clear hi)))
          go_meet
          case rel => exact ⟨_, (t191), (t199), H', ⟨by first | omega | exact Nat.le_refl _⟩, ⟨by (with_reducible repeat (first | apply Kd.S_alloc | apply Kd.S_drewN | apply Kd.S_drew)); exact HO193.out⟩, ⟨by repeat (first | (with_reducible first | exact HI0.out | apply IsS57.alloc | apply IsS57.drewN | apply IsS57.drew | apply IsS57.set_1) | exact HI0.out)⟩, ⟨by repeat (first | (with_reducible first | exact HK.out | apply KeepBut.set_ | apply keep_drewN | apply keep_drew | apply keep_alloc) | exact HK.out)⟩, ⟨by repeat (first | (with_reducible first | exact HB.out | apply below_alloc | apply pw_below_drewN | apply below_drew1 | refine below_set ?_ (IsS57.ge HI0.out)) | exact HB.out)⟩⟩
        · rw [if_neg c26] at H
          have c26b0 : (t198 == t196) = false := beq_eq_false_iff_ne.mpr c26
          have c26b1 : (t198 != t196) = true := bne_iff_ne.mpr c26
          by_cases c29 : 0 ≤ t196
          · rw [if_pos c29] at H
            have c29b0 : decide (0 ≤ t196) = true := decide_eq_true c29
            clear c29
            by_cases c30 : t196 < (t191.length : Int)
            · rw [if_pos c30] at H
              have c30b0 : decide (t196 < (t191.length : Int)) = true := decide_eq_true c30
              clear c30
              by_cases c31 : 0 ≤ t198
              · rw [if_pos c31] at H
                have c31b0 : decide (0 ≤ t198) = true := decide_eq_true c31
                clear c31
                by_cases c32 : t198 < ((rd_L2 t191 t196).length : Int)
                · rw [if_pos c32] at H
                  have c32b0 : decide (t198 < ((rd_L2 t191 t196).length : Int)) = true := decide_eq_true c32
                  clear c32
                  obtain ⟨y203, hy203⟩ : ∃ y_ : List Int, y_ = ((rd_L2 t191 t196).set (t198 : Int).toNat (wrap64 (1 - (rd (rd_L2 t191 t196) t198)))) := ⟨_, rfl⟩
                  replace H : (spec_l20Syndrome.j0 k a1 (t191.set (t196 : Int).toNat y203) s0_0 t199) = some (r1, r2) := by first | (rw [hy203]; with_reducible exact H) | (have H2_ := (Option.bind_some _ _).symm.trans H; rw [hy203]; with_reducible exact H2_) | (have H2_ := (Option.bind_some _ _).symm.trans H; with_reducible exact H2_) | with_reducible exact H | (rw [hy203]; exact H) | exact H
                  have Ny203 := Aside0.mk hy203
                  clear hy203
                  obtain ⟨y205, hy205⟩ : ∃ y_ : List (List Int), y_ = (t191.set (t196 : Int).toNat y203) := ⟨_, rfl⟩
                  replace H : (spec_l20Syndrome.j0 k a1 y205 s0_0 t199) = some (r1, r2) := by first | (rw [hy205]; with_reducible exact H) | (have H2_ := (Option.bind_some _ _).symm.trans H; rw [hy205]; with_reducible exact H2_) | (have H2_ := (Option.bind_some _ _).symm.trans H; with_reducible exact H2_) | with_reducible exact H | (rw [hy205]; exact H) | exact H
                  have Ny205 := Aside0.mk hy205
                  clear hy205
                  have H' := Aside0.mk H
                  clear H
                  try go_wp2_with (first | ((with_reducible refine gate_callee (f := 55) rfl ?_); refine goesL_ (some 34) rfl rfl Try.func55 (by kernel_rfl) rfl #[.pointer (some ⟨g, 0, none⟩), .int .i64 ji4] rfl (by (try simp only [List.map_toArray, List.map_cons, List.map_nil]); first | done | (simp only [hji4]; rfl) | rfl | (simp only [List.length_drop, List.length_take]; rfl)) ?_; (with_reducible refine (spec_l20Rd_pick.calls k g s0_0 t195 ji4 t196 t197 w0 _ ?side1 ?side2 A24.out).mono ?_); (case side1 => repeat (first | (with_reducible first | exact HI0.out | apply IsS57.alloc | apply IsS57.drewN | apply IsS57.drew | apply IsS57.set_1) | exact HI0.out)); (case side2 => repeat (first | (with_reducible first | exact HB.out | apply below_alloc | apply pw_below_drewN | apply below_drew1 | refine below_set ?_ (IsS57.ge HI0.out)) | exact HB.out)); rintro e w34 ⟨rfl, hi, hb, hk⟩; refine ⟨_, rfl, ?_⟩; have n0_ := Aside0.mk (Kd.S_mono (Kd.S_keep (IsS57.apartS (show IsS57 w0 _ g s0_0 t195 from by repeat (first | (with_reducible first | exact HI0.out | apply IsS57.alloc | apply IsS57.drewN | apply IsS57.drew | apply IsS57.set_1) | exact HI0.out)) (by (with_reducible repeat (first | apply Kd.S_alloc | apply Kd.S_drewN | apply Kd.S_drew)); exact HO193.out) (by decide)) hk (fun _ h => h.2)) (fun _ h => h.1)); have n1_ := Aside0.mk (KeepBut.trans (by repeat (first | (with_reducible first | exact HK.out | apply KeepBut.set_ | apply keep_drewN | apply keep_drew | apply keep_alloc) | exact HK.out)) hk (.inl rfl)); have n2_ := Aside0.mk (hb); have n3_ := Aside0.mk (hi); clear HO193; clear HK; clear HB; clear HI0; have HO193 := n0_; have HK := n1_; have HB := n2_; have HI0 := n3_; clear n0_ n1_ n2_ n3_; (try clear hb); (try clear hb2); (try clear hk); (try clear hi)) | ((with_reducible refine gate_callee (f := 55) rfl ?_); refine goesL_ (some 37) rfl rfl Try.func55 (by kernel_rfl) rfl #[.pointer (some ⟨g, 0, none⟩), .int .i64 ji4] rfl (by (try simp only [List.map_toArray, List.map_cons, List.map_nil]); first | done | (simp only [hji4]; rfl) | rfl | (simp only [List.length_drop, List.length_take]; rfl)) ?_; (with_reducible refine (spec_l20Rd_pick.calls k g s0_0 t197 ji4 t198 t199 w0 _ ?side1 ?side2 A25.out).mono ?_); (case side1 => repeat (first | (with_reducible first | exact HI0.out | apply IsS57.alloc | apply IsS57.drewN | apply IsS57.drew | apply IsS57.set_1) | exact HI0.out)); (case side2 => repeat (first | (with_reducible first | exact HB.out | apply below_alloc | apply pw_below_drewN | apply below_drew1 | refine below_set ?_ (IsS57.ge HI0.out)) | exact HB.out)); rintro e w35 ⟨rfl, hi, hb, hk⟩; refine ⟨_, rfl, ?_⟩; have n0_ := Aside0.mk (Kd.S_mono (Kd.S_keep (IsS57.apartS (show IsS57 w0 _ g s0_0 t197 from by repeat (first | (with_reducible first | exact HI0.out | apply IsS57.alloc | apply IsS57.drewN | apply IsS57.drew | apply IsS57.set_1) | exact HI0.out)) (by (with_reducible repeat (first | apply Kd.S_alloc | apply Kd.S_drewN | apply Kd.S_drew)); exact HO193.out) (by decide)) hk (fun _ h => h.2)) (fun _ h => h.1)); have n1_ := Aside0.mk (KeepBut.trans (by repeat (first | (with_reducible first | exact HK.out | apply KeepBut.set_ | apply keep_drewN | apply keep_drew | apply keep_alloc) | exact HK.out)) hk (.inl rfl)); have n2_ := Aside0.mk (hb); have n3_ := Aside0.mk (hi); clear HO193; clear HK; clear HB; clear HI0; have HO193 := n0_; have HK := n1_; have HB := n2_; have HI0 := n3_; clear n0_ n1_ n2_ n3_; (try clear hb); (try clear hb2); (try clear hk); (try clear hi)))
                  have n0_ := Aside0.mk (Kd.S_drew HO193.out)
                  have n1_ := Aside0.mk (IsS57.drew HI0.out)
                  have n2_ := Aside0.mk (keep_drew HK.out)
                  have n3_ := Aside0.mk (below_drew1 HB.out)
                  clear HO193
                  clear HI0
                  clear HK
                  clear HB
                  have HO193 := n0_
                  have HI0 := n1_
                  have HK := n2_
                  have HB := n3_
                  clear n0_ n1_ n2_ n3_
                  obtain ⟨Ao37, co37, eo37⟩ := Kd.S_slice HO193.out
                  (first | subst eo37 | (injection eo37 with f1_ f2_ f3_; have f4_ := f1_.symm; have f5_ := f3_.symm; clear f1_ f2_ f3_; subst f4_; subst f5_))
                  have p200 : 0 ≤ (t196 : Int) := of_decide_eq_true (by first | (with_reducible assumption) | assumption)
                  have q200 : t196 < (t191.length : Int) := of_decide_eq_true (by first | (with_reducible assumption) | assumption)
                  obtain ⟨ad200, A200_0, c200_0, e200, hx200_0, hl200_0, hi200_0⟩ := at_L2 (Kd.S_reads' HO193.out).2.2 t196 p200 q200
                  cases e200
                  obtain ⟨ce200, hce200, hMe200, hcc200⟩ := Kd.S_get HO193.out [] t196 p200 (by first | exact q200 | exact of_decide_eq_true (by first | (with_reducible assumption) | assumption) | (have e_ := (Kd.S_reads' HO193.out).1; omega))
                  obtain ⟨ve200_0, rfl, ge200_0⟩ := hMe200
                  have hv200_0 := hcc200 0 _ rfl
                  rw [Nat.add_zero, show ((Kd.slice 3 (Kd.int .i64))).sz = 1 from rfl, Nat.mul_one] at hv200_0
                  replace hv200_0 := Option.some.inj (hv200_0.symm.trans hx200_0)
                  rw [hv200_0] at ge200_0
                  have HL200_0 := Aside0.mk (show Kd.R (Kd.int .i64) 3 _ _ _ _ (rd_L2 t191 t196) from ge200_0)
                  clear hv200_0 ge200_0
                  have HX200_0 := Aside0.mk hx200_0
                  clear hcc200 hce200
                  have HR200_0 := Aside0.mk hi200_0
                  have HC200_0 := Aside0.mk hl200_0
                  clear hi200_0 hl200_0
                  replace p200 := eq_true p200
                  replace q200 := eq_true q200
                  have p201 : 0 ≤ (t196 : Int) := of_decide_eq_true (by first | (with_reducible assumption) | assumption)
                  have q201 : t196 < (t191.length : Int) := of_decide_eq_true (by first | (with_reducible assumption) | assumption)
                  obtain ⟨ad201, A201_0, c201_0, e201, hx201_0, hl201_0, hi201_0⟩ := at_L2 (Kd.S_reads' HO193.out).2.2 t196 p201 q201
                  obtain rfl : ad200 = ad201 := (by injection e201)
                  obtain ⟨ce201, hce201, hMe201, hcc201⟩ := Kd.S_get HO193.out [] t196 p201 (by first | exact q201 | exact of_decide_eq_true (by first | (with_reducible assumption) | assumption) | (have e_ := (Kd.S_reads' HO193.out).1; omega))
                  obtain ⟨ve201_0, rfl, ge201_0⟩ := hMe201
                  have hv201_0 := hcc201 0 _ rfl
                  rw [Nat.add_zero, show ((Kd.slice 3 (Kd.int .i64))).sz = 1 from rfl, Nat.mul_one] at hv201_0
                  replace hv201_0 := Option.some.inj (hv201_0.symm.trans hx201_0)
                  rw [hv201_0] at ge201_0
                  have HL201_0 := Aside0.mk (show Kd.R (Kd.int .i64) 3 _ _ _ _ (rd_L2 t191 t196) from ge201_0)
                  clear hv201_0 ge201_0
                  have HX201_0 := Aside0.mk hx201_0
                  clear hcc201 hce201
                  have HR201_0 := Aside0.mk hi201_0
                  have HC201_0 := Aside0.mk hl201_0
                  clear hi201_0 hl201_0
                  replace p201 := eq_true p201
                  replace q201 := eq_true q201
                  have ea_ := Option.some.inj (hx200_0.symm.trans hx201_0)
                  injection ea_ with ea_ en_ ec_
                  subst ea_
                  subst ec_
                  clear en_
                  have p202 : 0 ≤ (t198 : Int) := of_decide_eq_true (by first | (with_reducible assumption) | assumption)
                  have q202 : t198 < ((rd_L2 t191 t196).length : Int) := of_decide_eq_true (by first | (with_reducible assumption) | assumption)
                  obtain ⟨ad202, e202, hx202_0⟩ := Kd.at_int (by repeat (first | (with_reducible exact HR201_0.out) | (with_reducible refine Kd.C_alloc ?_ _) | (with_reducible refine Kd.C_drewN ?_ _) | (with_reducible refine Kd.C_drew ?_) | exact HR201_0.out)) t198 p202 q202
                  cases e202
                  replace p202 := eq_true p202
                  replace q202 := eq_true q202
                  have p33 : 0 ≤ (t198 : Int) := of_decide_eq_true (by first | (with_reducible assumption) | assumption)
                  have q33 : (t198 : Int) < (((rd_L2 t191 t196).length : Int) : Int) := of_decide_eq_true (by first | (with_reducible assumption) | assumption)
                  obtain ⟨go33, co33, eo33, gb33, gl33, cl33, HG33⟩ := Kd.R_form HL200_0.out (by omega)
                  (first | cases eo33 | (injection eo33 with ea_ en_ ec_; (first | subst ea_ | (injection ea_ with ea_; subst ea_)); subst ec_; clear en_))
                  have GB33 := Aside0.mk gb33
                  have GG33 := Aside0.mk HG33
                  clear gb33 gl33 HG33
                  (first | simp only [add_plain] at hx202_0 | skip)
                  obtain ⟨hx33_0, hf33_0⟩ := Kd.R_celln 0 HL200_0.out (t198 : Int) p33 q33
                  replace p33 := eq_true p33
                  replace q33 := eq_true q33
                  have hq38 : (t196 : Int) < (t191.length : Int) := (by have h_ : (t196 : Int) < ((t191.length : Int) : Int) := of_decide_eq_true (by first | (with_reducible assumption) | assumption); first | exact h_ | (have e_ := (Kd.S_reads' HO193.out).1; omega) | simpa only [List.length_set, List.length_set] using h_)
                  obtain ⟨oki38, ce38, hcl38, hM38, hcc38, hok38, hbk38⟩ := Kd.S_borrow HO193.out [] (t196 : Int) (of_decide_eq_true (by first | (with_reducible assumption) | assumption)) hq38
                  obtain ⟨ve38_0, rfl, ge38_0⟩ := hM38
                  have hv38 := hcc38 0 _ rfl
                  rw [Nat.add_zero, show ((Kd.slice 3 (Kd.int .i64))).sz = 1 from rfl, Nat.mul_one] at hv38
                  replace hv38 := Option.some.inj (hv38.symm.trans HX200_0.out)
                  subst hv38
                  clear hcc38 hcl38
                  replace ge38_0 := (show Kd.R (Kd.int .i64) 3 _ _ _ _ (rd_L2 t191 t196) from ge38_0)
                  have HP38 := Kd.R_putg ge38_0 (t198 : Int) (wrap64 (1 - (rd (rd_L2 t191 t196) t198)))
                  have HN0_go33 := Aside0.mk (show g ≠ go33 from by have h_ := IsS57.own_ne HI0.out HL200_0.out (by decide); intro e_; exact h_ (by rw [e_]; rfl))
                  rw [← Ny203.out] at HP38
                  have HS38 := hbk38 HP38.2 (fun k_ e_ => by injection e_ with e_; subst e_; exact ge38_0.1 _ rfl) (x' := y203) (Kd.M_row HP38.1)
                  rw [← Ny205.out] at HS38
                  have HQ38 := Aside0.mk HS38
                  clear HP38 HS38 hbk38 hok38
                  refine start_ (n := 15) (S := fun w' => w'.cell? (ad200.add (t196).toNat) = some (.slice (some ⟨go33, 0, none⟩) (rd_L2 t191 t196).length c200_0) ∧ w'.cell? (ad200.add (t196).toNat) = some (.slice (some ⟨go33, 0, none⟩) (rd_L2 t191 t196).length c200_0) ∧ w'.cell? ⟨go33, (t198).toNat, none⟩ = some (.int .i64 (rd (rd_L2 t191 t196) t198))) (ds := [14]) #[false, false, false, false, false, false, false, false, false, false, false, false, false, false, false] (by kernel_rfl) rfl rfl ⟨hx200_0, hx201_0, hx202_0⟩ (fun hHeld => ?_); refine with_tabW spec_l20Syndrome.tab7 spec_l20Syndrome.bits7 (fun HT_ HW_ => ?_)
                  generalize w35.drew = w36 at HO193 HI0 HK HB GG33 HL200_0 HL201_0 HQ38 HR200_0 HR201_0 HX200_0 HX201_0 hf33_0 hx200_0 hx201_0 hx202_0 hx33_0 hHeld ⊢
                  refine pure_ (i := 0) (N := some 41) (v := ?_) (a' := ?_) #[true, false, false, false, false, false, false, false, false, false, false, false, false, false, false] rfl rfl (any_of HT_.out (by kernel_rfl)) (fun _ _ _ h => h) (Or.inl ⟨by rfl, ?_⟩) ?_ ?_
                  rotate_left
                  · intro w'
                    go_simp
                    with_reducible rfl
                  rotate_left
                  · simp only [Act.put, List.setIfInBounds_toArray, List.set_cons_zero, List.set_cons_succ, i64_w, i32_w]
                    rfl
                  refine pure_ (i := 1) (N := some 42) (v := ?_) (a' := ?_) #[true, true, false, false, false, false, false, false, false, false, false, false, false, false, false] rfl rfl (any_of HT_.out (by kernel_rfl)) (fun _ _ _ h => h) (Or.inl ⟨by rfl, ?_⟩) ?_ ?_
                  rotate_left
                  · intro w'
                    go_simp
                    with_reducible rfl
                  rotate_left
                  · simp only [Act.put, List.setIfInBounds_toArray, List.set_cons_zero, List.set_cons_succ, i64_w, i32_w]
                    rfl
                  refine pure_ (i := 2) (N := some 43) (v := ?_) (a' := ?_) #[true, true, true, false, false, false, false, false, false, false, false, false, false, false, false] rfl rfl (any_of HT_.out (by kernel_rfl)) (fun _ _ _ h => h) (Or.inl ⟨by rfl, ?_⟩) ?_ ?_
                  rotate_left
                  · intro w'
                    go_simp
                    with_reducible rfl
                  rotate_left
                  · simp only [Act.put, List.setIfInBounds_toArray, List.set_cons_zero, List.set_cons_succ, i64_w, i32_w]
                    rfl
                  refine pure_ (i := 4) (N := some 45) (v := ?_) (a' := ?_) #[true, true, true, false, true, false, false, false, false, false, false, false, false, false, false] rfl rfl (any_of HT_.out (by kernel_rfl)) (fun _ _ _ h => h) (Or.inl ⟨by rfl, ?_⟩) ?_ ?_
                  rotate_left
                  · intro w'
                    go_simp
                    with_reducible rfl
                  rotate_left
                  · simp only [Act.put, List.setIfInBounds_toArray, List.set_cons_zero, List.set_cons_succ, i64_w, i32_w]
                    rfl
                  refine pure_ (i := 5) (N := some 46) (v := ?_) (a' := ?_) #[true, true, true, false, true, true, false, false, false, false, false, false, false, false, false] rfl rfl (any_of HT_.out (by kernel_rfl)) (fun _ _ _ h => h) (Or.inl ⟨by rfl, ?_⟩) ?_ ?_
                  rotate_left
                  · intro w'
                    go_simp
                    with_reducible rfl
                  rotate_left
                  · simp only [Act.put, List.setIfInBounds_toArray, List.set_cons_zero, List.set_cons_succ, i64_w, i32_w]
                    rfl
                  refine pure_ (i := 6) (N := some 47) (v := ?_) (a' := ?_) #[true, true, true, false, true, true, true, false, false, false, false, false, false, false, false] rfl rfl (any_of HT_.out (by kernel_rfl)) (fun _ _ _ h => h) (Or.inl ⟨by rfl, ?_⟩) ?_ ?_
                  rotate_left
                  · intro w'
                    go_simp
                    with_reducible rfl
                  rotate_left
                  · simp only [Act.put, List.setIfInBounds_toArray, List.set_cons_zero, List.set_cons_succ, i64_w, i32_w]
                    rfl
                  refine pure_ (i := 7) (N := some 48) (v := ?_) (a' := ?_) #[true, true, true, false, true, true, true, true, false, false, false, false, false, false, false] rfl rfl (any_of HT_.out (by kernel_rfl)) (fun _ _ _ h => h) (Or.inl ⟨by rfl, ?_⟩) ?_ ?_
                  rotate_left
                  · intro w'
                    go_simp
                    with_reducible rfl
                  rotate_left
                  · simp only [Act.put, List.setIfInBounds_toArray, List.set_cons_zero, List.set_cons_succ, i64_w, i32_w]
                    rfl
                  refine pure_ (i := 9) (N := some 50) (v := ?_) (a' := ?_) #[true, true, true, false, true, true, true, true, false, true, false, false, false, false, false] rfl rfl (any_of HT_.out (by kernel_rfl)) (fun _ _ _ h => h) (Or.inl ⟨by rfl, ?_⟩) ?_ ?_
                  rotate_left
                  · intro w'
                    go_simp
                    with_reducible rfl
                  rotate_left
                  · simp only [Act.put, List.setIfInBounds_toArray, List.set_cons_zero, List.set_cons_succ, i64_w, i32_w]
                    rfl
                  refine take_ (i := 3) (N := some 44) (v := ?_) (a' := ?_) #[true, true, true, true, true, true, true, true, false, true, false, false, false, false, false] rfl rfl (take_ofW HT_.out HW_.out (by kernel_rfl)) (fun _ _ _ h => h) (Or.inl ⟨by rfl, ?_⟩) hHeld ?_ ?_
                  rotate_left
                  · rintro w' ⟨s0, s1, s2⟩
                    go_simp
                    with_reducible rfl
                  rotate_left
                  · simp only [Act.put, List.setIfInBounds_toArray, List.set_cons_zero, List.set_cons_succ, i64_w, i32_w]
                    rfl
                  refine take_ (i := 8) (N := some 49) (v := ?_) (a' := ?_) #[true, true, true, true, true, true, true, true, true, true, false, false, false, false, false] rfl rfl (take_ofW HT_.out HW_.out (by kernel_rfl)) (fun _ _ _ h => h) (Or.inl ⟨by rfl, ?_⟩) hHeld ?_ ?_
                  rotate_left
                  · rintro w' ⟨s0, s1, s2⟩
                    go_simp
                    with_reducible rfl
                  rotate_left
                  · simp only [Act.put, List.setIfInBounds_toArray, List.set_cons_zero, List.set_cons_succ, i64_w, i32_w]
                    rfl
                  refine pure_ (i := 10) (N := some 51) (v := ?_) (a' := ?_) #[true, true, true, true, true, true, true, true, true, true, true, false, false, false, false] rfl rfl (any_of HT_.out (by kernel_rfl)) (fun _ _ _ h => h) (Or.inl ⟨by rfl, ?_⟩) ?_ ?_
                  rotate_left
                  · intro w'
                    go_simp
                    with_reducible rfl
                  rotate_left
                  · simp only [Act.put, List.setIfInBounds_toArray, List.set_cons_zero, List.set_cons_succ, i64_w, i32_w]
                    rfl
                  refine take_ (i := 11) (N := some 52) (v := ?_) (a' := ?_) #[true, true, true, true, true, true, true, true, true, true, true, true, false, false, false] rfl rfl (take_ofW HT_.out HW_.out (by kernel_rfl)) (fun _ _ _ h => h) (Or.inl ⟨by rfl, ?_⟩) hHeld ?_ ?_
                  rotate_left
                  · rintro w' ⟨s0, s1, s2⟩
                    go_simp
                    with_reducible rfl
                  rotate_left
                  · simp only [Act.put, List.setIfInBounds_toArray, List.set_cons_zero, List.set_cons_succ, i64_w, i32_w]
                    rfl
                  refine pure_ (i := 12) (N := some 53) (v := ?_) (a' := ?_) #[true, true, true, true, true, true, true, true, true, true, true, true, true, false, false] rfl rfl (any_of HT_.out (by kernel_rfl)) (fun _ _ _ h => h) (Or.inl ⟨by rfl, ?_⟩) ?_ ?_
                  rotate_left
                  · intro w'
                    go_simp
                    with_reducible rfl
                  rotate_left
                  · simp only [Act.put, List.setIfInBounds_toArray, List.set_cons_zero, List.set_cons_succ, i64_w, i32_w]
                    rfl
                  refine pure_ (i := 13) (N := some 54) (v := ?_) (a' := ?_) #[true, true, true, true, true, true, true, true, true, true, true, true, true, true, false] rfl rfl (any_of HT_.out (by kernel_rfl)) (fun _ _ _ h => h) (Or.inl ⟨by rfl, ?_⟩) ?_ ?_
                  rotate_left
                  · intro w'
                    go_simp
                    with_reducible rfl
                  rotate_left
                  · simp only [Act.put, List.setIfInBounds_toArray, List.set_cons_zero, List.set_cons_succ, i64_w, i32_w]
                    rfl
                  refine last_ (i := 14) (N := none) #[true, true, true, true, true, true, true, true, true, true, true, true, true, true, true] rfl rfl (one_of HT_.out (by kernel_rfl)) (by decide) (fun K hK => ?_)
                  refine skip_ (w1 := ?_) (by rfl) rfl ?_ ?_
                  rotate_left
                  · go_simp
                    rfl
                  refine hK.out _ _ ?_
                  clear hK K
                  refine done_ (done_of HT_.out (by kernel_rfl)) ?_
                  try go_wp2
                  go_meet
                  case rel => exact ⟨_, (y205), (t199), H', ⟨by first | omega | exact Nat.le_refl _⟩, ⟨by (with_reducible repeat (first | apply Kd.S_alloc | apply Kd.S_drewN | apply Kd.S_drew)); exact HQ38.out⟩, ⟨by repeat (first | (with_reducible first | exact HI0.out | apply IsS57.alloc | apply IsS57.drewN | apply IsS57.drew | apply IsS57.set_1 | refine IsS57.far ?_ HN0_go33.out _) | exact HI0.out)⟩, ⟨by repeat (first | (with_reducible first | exact HK.out | apply KeepBut.set_ | apply keep_drewN | apply keep_drew | apply keep_alloc | refine keep_far ?_ GB33.out _) | exact HK.out)⟩, ⟨by repeat (first | (with_reducible first | exact HB.out | apply below_alloc | apply pw_below_drewN | apply below_drew1 | refine below_set ?_ (Nat.le_trans HL.out GB33.out) | refine below_set ?_ (IsS57.ge HI0.out)) | exact HB.out)⟩⟩
                · rw [if_neg c32] at H
                  exact absurd H (by simp)
              · rw [if_neg c31] at H
                exact absurd H (by simp)
            · rw [if_neg c30] at H
              exact absurd H (by simp)
          · rw [if_neg c29] at H
            exact absurd H (by simp)
      · rw [if_neg c23] at H
        have c23b0 : (t194 == 0) = false := beq_eq_false_iff_ne.mpr c23
        have c23b1 : (t194 != 0) = true := bne_iff_ne.mpr c23
        (first | rw [c23b0] | (simp only [i64_w, i32_w]; rw [c23b0]) | skip)
        have H' := Aside0.mk H
        clear H
        go_wp2
        go_meet
        case rel => exact ⟨_, (t191), (t195), H', ⟨by first | omega | exact Nat.le_refl _⟩, ⟨by (with_reducible repeat (first | apply Kd.S_alloc | apply Kd.S_drewN | apply Kd.S_drew)); exact HO193.out⟩, ⟨by repeat (first | (with_reducible first | exact HI0.out | apply IsS57.alloc | apply IsS57.drewN | apply IsS57.drew | apply IsS57.set_1) | exact HI0.out)⟩, ⟨by repeat (first | (with_reducible first | exact HK.out | apply KeepBut.set_ | apply keep_drewN | apply keep_drew | apply keep_alloc) | exact HK.out)⟩, ⟨by repeat (first | (with_reducible first | exact HB.out | apply below_alloc | apply pw_below_drewN | apply below_drew1 | refine below_set ?_ (IsS57.ge HI0.out)) | exact HB.out)⟩⟩
    case rest =>
      clear HC14
      try clear c2
      try clear p2
      try clear q2
      try clear hx2
      try clear c3
      try clear p3
      try clear q3
      try clear hx3
      try clear hf3
      try clear c5
      try clear p6
      try clear c8
      try clear c8b0
      try clear c20
      try clear p20
      try clear q20
      try clear hx20
      try clear c23
      try clear c23b0
      try clear c23b1
      try clear c26
      try clear c26b0
      try clear c26b1
      try clear c28
      try clear c29
      try clear c29b0
      try clear c30
      try clear c30b0
      try clear c31
      try clear c31b0
      try clear c32
      try clear c32b0
      try clear p33
      try clear q33
      try clear hx33
      try clear hf33
      try clear c38
      try clear q38
      try clear hx200_0
      try clear hx201_0
      try clear hx202_0
      try clear hx33_0
      try clear p200
      try clear p201
      try clear p202
      try clear p33
      try clear q200
      try clear q201
      try clear q202
      try clear q33
      obtain ⟨kq, x6_13, x1001_13, HA, HJ13, HO_6, HI0, HK, HB⟩ := hcut
      cases kq with
      | zero => exact absurd HA.out (by simp [spec_l20Syndrome.j0])
      | succ kj13 =>
        have H := HA.out
        clear HA
        simp only [spec_l20Syndrome.j0] at H
        replace H := Option.bind_eq_some_iff.mp H
        obtain ⟨⟨t206, t207⟩, A400, H⟩ := H
        replace H : (if t206 = true then ((spec_l20Rd_pick.f kj13 s0_0 t207 3).bind fun bt208 => (if bt208.1 = 0 then (some ((([] : List (List Int))), bt208.2)) else (if bt208.1 = 1 then (if 0 < (x6_13.length : Int) then (if 0 < ((rd_L2 x6_13 0).length : Int) then (some ((x6_13.set (0 : Int).toNat ((rd_L2 x6_13 0).set (0 : Int).toNat 1)), bt208.2)) else (none)) else (none)) else (if 0 < (x6_13.length : Int) then (if (rd_L2 x6_13 0).length < 17592186044416 then (some ((x6_13.set (0 : Int).toNat ((rd_L2 x6_13 0) ++ [0])), bt208.2)) else (none)) else (none))))) else (some (x6_13, t207))) = some (r1, r2) := H
        have A40 := Aside0.mk A400
        clear A400
        by_cases c41 : t206 = true
        · subst c41
          have H1 : ((spec_l20Rd_pick.f kj13 s0_0 t207 3).bind fun bt208 => (if bt208.1 = 0 then (some ((([] : List (List Int))), bt208.2)) else (if bt208.1 = 1 then (if 0 < (x6_13.length : Int) then (if 0 < ((rd_L2 x6_13 0).length : Int) then (some ((x6_13.set (0 : Int).toNat ((rd_L2 x6_13 0).set (0 : Int).toNat 1)), bt208.2)) else (none)) else (none)) else (if 0 < (x6_13.length : Int) then (if (rd_L2 x6_13 0).length < 17592186044416 then (some ((x6_13.set (0 : Int).toNat ((rd_L2 x6_13 0) ++ [0])), bt208.2)) else (none)) else (none))))) = some (r1, r2) := by rw [if_pos rfl] at H; exact H
          clear H
          have H := H1
          clear H1
          replace H := Option.bind_eq_some_iff.mp H
          obtain ⟨⟨t208, t209⟩, A420, H⟩ := H
          replace H : (if t208 = 0 then (some ((([] : List (List Int))), t209)) else (if t208 = 1 then (if 0 < (x6_13.length : Int) then (if 0 < ((rd_L2 x6_13 0).length : Int) then (some ((x6_13.set (0 : Int).toNat ((rd_L2 x6_13 0).set (0 : Int).toNat 1)), t209)) else (none)) else (none)) else (if 0 < (x6_13.length : Int) then (if (rd_L2 x6_13 0).length < 17592186044416 then (some ((x6_13.set (0 : Int).toNat ((rd_L2 x6_13 0) ++ [0])), t209)) else (none)) else (none)))) = some (r1, r2) := H
          have A42 := Aside0.mk A420
          clear A420
          by_cases c43 : t208 = 0
          · rw [if_pos c43] at H
            have c43b0 : (t208 == 0) = true := beq_iff_eq.mpr c43
            have c43b1 : (t208 != 0) = false := bne_eq_false_iff_eq.mpr c43
            clear c43
            obtain ⟨y210, hy210⟩ : ∃ y_ : List (List Int), y_ = (([] : List (List Int))) := ⟨_, rfl⟩
            replace H : (some (y210, t209)) = some (r1, r2) := by first | (rw [hy210]; with_reducible exact H) | (have H2_ := (Option.bind_some _ _).symm.trans H; rw [hy210]; with_reducible exact H2_) | (have H2_ := (Option.bind_some _ _).symm.trans H; with_reducible exact H2_) | with_reducible exact H | (rw [hy210]; exact H) | exact H
            have Ny210 := Aside0.mk hy210
            clear hy210
            simp only [Option.some.injEq, Prod.mk.injEq] at H
            obtain ⟨rfl, rfl⟩ := H
            go_wp2_with (first | ((with_reducible refine gate_callee (f := 64) rfl ?_); refine goesL_ (some 57) rfl rfl Try.func64 (by kernel_rfl) rfl #[.pointer (some ⟨g, 0, none⟩), .int .i64 a1] rfl (by (try simp only [List.map_toArray, List.map_cons, List.map_nil]); first | done | rfl | (simp only [List.length_drop, List.length_take]; rfl)) ?_; (with_reducible refine (spec_l20Rd_odd.calls kj13 g s0_0 x1001_13 a1 true t207 w0 _ ?side1 ?side2 A40.out).mono ?_); (case side1 => repeat (first | (with_reducible first | exact HI0.out | apply IsS57.alloc | apply IsS57.drewN | apply IsS57.drew | apply IsS57.set_1) | exact HI0.out)); (case side2 => repeat (first | (with_reducible first | exact HB.out | apply below_alloc | apply pw_below_drewN | apply below_drew1 | refine below_set ?_ (IsS57.ge HI0.out)) | exact HB.out)); rintro e w44 ⟨rfl, hi, hb, hk⟩; refine ⟨_, rfl, ?_⟩; have n0_ := Aside0.mk (Kd.S_mono (Kd.S_keep (IsS57.apartS (show IsS57 w0 _ g s0_0 x1001_13 from by repeat (first | (with_reducible first | exact HI0.out | apply IsS57.alloc | apply IsS57.drewN | apply IsS57.drew | apply IsS57.set_1) | exact HI0.out)) (by (with_reducible repeat (first | apply Kd.S_alloc | apply Kd.S_drewN | apply Kd.S_drew)); exact HO_6.out) (by decide)) hk (fun _ h => h.2)) (fun _ h => h.1)); have n1_ := Aside0.mk (KeepBut.trans (by repeat (first | (with_reducible first | exact HK.out | apply KeepBut.set_ | apply keep_drewN | apply keep_drew | apply keep_alloc) | exact HK.out)) hk (.inl rfl)); have n2_ := Aside0.mk (hb); have n3_ := Aside0.mk (hi); clear HO_6; clear HK; clear HB; clear HI0; have HO_6 := n0_; have HK := n1_; have HB := n2_; have HI0 := n3_; clear n0_ n1_ n2_ n3_; (try clear hb); (try clear hb2); (try clear hk); (try clear hi)) | ((with_reducible refine gate_callee (f := 55) rfl ?_); refine goesL_ (some 59) rfl rfl Try.func55 (by kernel_rfl) rfl #[.pointer (some ⟨g, 0, none⟩), .int .i64 3] rfl (by (try simp only [List.map_toArray, List.map_cons, List.map_nil]); first | done | rfl | (simp only [List.length_drop, List.length_take]; rfl)) ?_; (with_reducible refine (spec_l20Rd_pick.calls kj13 g s0_0 t207 3 t208 t209 w0 _ ?side1 ?side2 A42.out).mono ?_); (case side1 => repeat (first | (with_reducible first | exact HI0.out | apply IsS57.alloc | apply IsS57.drewN | apply IsS57.drew | apply IsS57.set_1) | exact HI0.out)); (case side2 => repeat (first | (with_reducible first | exact HB.out | apply below_alloc | apply pw_below_drewN | apply below_drew1 | refine below_set ?_ (IsS57.ge HI0.out)) | exact HB.out)); rintro e w45 ⟨rfl, hi, hb, hk⟩; refine ⟨_, rfl, ?_⟩; have n0_ := Aside0.mk (Kd.S_mono (Kd.S_keep (IsS57.apartS (show IsS57 w0 _ g s0_0 t207 from by repeat (first | (with_reducible first | exact HI0.out | apply IsS57.alloc | apply IsS57.drewN | apply IsS57.drew | apply IsS57.set_1) | exact HI0.out)) (by (with_reducible repeat (first | apply Kd.S_alloc | apply Kd.S_drewN | apply Kd.S_drew)); exact HO_6.out) (by decide)) hk (fun _ h => h.2)) (fun _ h => h.1)); have n1_ := Aside0.mk (KeepBut.trans (by repeat (first | (with_reducible first | exact HK.out | apply KeepBut.set_ | apply keep_drewN | apply keep_drew | apply keep_alloc) | exact HK.out)) hk (.inl rfl)); have n2_ := Aside0.mk (hb); have n3_ := Aside0.mk (hi); clear HO_6; clear HK; clear HB; clear HI0; have HO_6 := n0_; have HK := n1_; have HB := n2_; have HI0 := n3_; clear n0_ n1_ n2_ n3_; (try clear hb); (try clear hb2); (try clear hk); (try clear hi)) | ((with_reducible refine gate_dst (N := 69) rfl ?_); refine Kd.S_lit (Kd.slice 3 (Kd.int .i64)) _ 34 ?hg (N := 69) ?hd (xs := ([] : List (List Int))) (inner := []) (ok := fun _ => True) (okp := fun _ => True) ?hr ?hp (fun _ hk => hk) trivial (Below.refl _ _) (Nat.le_refl _) (by simp) ?_; (case hd => rfl); (case hg => rfl); (case hr => first | (go_simp; done) | (go_simp; rfl)); (case hp => exact (Reps.none _ _)); intro v211 w46 ho47 hb hg_ hnew_; clear hg_ hnew_; (first | rw [← Ny210.out] at ho47 | (simp only [Int.reduceToNat] at ho47; rw [← Ny210.out] at ho47)); have n0_ := Aside0.mk (Kd.S_elder' (by (with_reducible repeat (first | apply Kd.S_alloc | apply Kd.S_drewN | apply Kd.S_drew)); exact HO_6.out) (Kd.S_base ho47) hb); have n1_ := Aside0.mk (Kd.S_lower (Kd.S_new' ho47 (Kd.S_lt (by (with_reducible repeat (first | apply Kd.S_alloc | apply Kd.S_drewN | apply Kd.S_drew)); exact HO_6.out))) (keep_size (w := w) (g := g) (row := none) (by repeat (first | (with_reducible first | exact HK.out | apply KeepBut.set_ | apply keep_drewN | apply keep_drew | apply keep_alloc) | exact HK.out)))); have n2_ := Aside0.mk (IsS57.below (by repeat (first | (with_reducible first | exact HI0.out | apply IsS57.alloc | apply IsS57.drewN | apply IsS57.drew | apply IsS57.set_1) | exact HI0.out)) hb); have n3_ := Aside0.mk (KeepBut.trans (by repeat (first | (with_reducible first | exact HK.out | apply KeepBut.set_ | apply keep_drewN | apply keep_drew | apply keep_alloc) | exact HK.out)) (KeepBut.of_below hb g none) (.inl rfl)); have n4_ := Aside0.mk (below_step (by repeat (first | (with_reducible first | exact HB.out | apply below_alloc | apply pw_below_drewN | apply below_drew1 | refine below_set ?_ (IsS57.ge HI0.out)) | exact HB.out)) hb); clear HO_6; clear HI0; clear HK; clear HB; have HO_6 := n0_; have HO212 := n1_; have HI0 := n2_; have HK := n3_; have HB := n4_; clear n0_ n1_ n2_ n3_ n4_; clear hb ho47))
            go_ret
            exact ⟨_, by first | rfl | (simp [errW_none, errW_some] <;> rfl) | (simp only [← hji4, ← hji6]; first | rfl | (simp [errW_none, errW_some] <;> rfl)) | (simp [*, errW_none, errW_some] <;> rfl), by (with_reducible repeat (first | apply Kd.S_alloc | apply Kd.S_drewN | apply Kd.S_drew)); exact Kd.S_mono HO212.out (fun _ hk => trivial), by repeat (first | (with_reducible first | exact HI0.out | apply IsS57.alloc | apply IsS57.drewN | apply IsS57.drew | apply IsS57.set_1) | exact HI0.out), by repeat (first | (with_reducible first | exact HB.out | apply below_alloc | apply pw_below_drewN | apply below_drew1 | refine below_set ?_ (IsS57.ge HI0.out)) | exact HB.out), by repeat (first | (with_reducible first | exact HK.out | apply KeepBut.set_ | apply keep_drewN | apply keep_drew | apply keep_alloc) | exact HK.out)⟩
          · rw [if_neg c43] at H
            have c43b0 : (t208 == 0) = false := beq_eq_false_iff_ne.mpr c43
            have c43b1 : (t208 != 0) = true := bne_iff_ne.mpr c43
            by_cases c48 : t208 = 1
            · rw [if_pos c48] at H
              have c48b0 : (t208 == 1) = true := beq_iff_eq.mpr c48
              have c48b1 : (t208 != 1) = false := bne_eq_false_iff_eq.mpr c48
              clear c48
              by_cases c49 : 0 < (x6_13.length : Int)
              · rw [if_pos c49] at H
                have c49b0 : decide (0 < (x6_13.length : Int)) = true := decide_eq_true c49
                have c49b1 : decide (0 < x6_13.length) = true := decide_eq_true (by omega)
                clear c49
                by_cases c50 : 0 < ((rd_L2 x6_13 0).length : Int)
                · rw [if_pos c50] at H
                  have c50b0 : decide (0 < ((rd_L2 x6_13 0).length : Int)) = true := decide_eq_true c50
                  have c50b1 : decide (0 < (rd_L2 x6_13 0).length) = true := decide_eq_true (by omega)
                  clear c50
                  obtain ⟨y214, hy214⟩ : ∃ y_ : List Int, y_ = ((rd_L2 x6_13 0).set (0 : Int).toNat 1) := ⟨_, rfl⟩
                  replace H : (some ((x6_13.set (0 : Int).toNat y214), t209)) = some (r1, r2) := by first | (rw [hy214]; with_reducible exact H) | (have H2_ := (Option.bind_some _ _).symm.trans H; rw [hy214]; with_reducible exact H2_) | (have H2_ := (Option.bind_some _ _).symm.trans H; with_reducible exact H2_) | with_reducible exact H | (rw [hy214]; exact H) | exact H
                  have Ny214 := Aside0.mk hy214
                  clear hy214
                  obtain ⟨y216, hy216⟩ : ∃ y_ : List (List Int), y_ = (x6_13.set (0 : Int).toNat y214) := ⟨_, rfl⟩
                  replace H : (some (y216, t209)) = some (r1, r2) := by first | (rw [hy216]; with_reducible exact H) | (have H2_ := (Option.bind_some _ _).symm.trans H; rw [hy216]; with_reducible exact H2_) | (have H2_ := (Option.bind_some _ _).symm.trans H; with_reducible exact H2_) | with_reducible exact H | (rw [hy216]; exact H) | exact H
                  have Ny216 := Aside0.mk hy216
                  clear hy216
                  simp only [Option.some.injEq, Prod.mk.injEq] at H
                  obtain ⟨rfl, rfl⟩ := H
                  go_wp2_with (first | ((with_reducible refine gate_callee (f := 64) rfl ?_); refine goesL_ (some 57) rfl rfl Try.func64 (by kernel_rfl) rfl #[.pointer (some ⟨g, 0, none⟩), .int .i64 a1] rfl (by (try simp only [List.map_toArray, List.map_cons, List.map_nil]); first | done | rfl | (simp only [List.length_drop, List.length_take]; rfl)) ?_; (with_reducible refine (spec_l20Rd_odd.calls kj13 g s0_0 x1001_13 a1 true t207 w0 _ ?side1 ?side2 A40.out).mono ?_); (case side1 => repeat (first | (with_reducible first | exact HI0.out | apply IsS57.alloc | apply IsS57.drewN | apply IsS57.drew | apply IsS57.set_1) | exact HI0.out)); (case side2 => repeat (first | (with_reducible first | exact HB.out | apply below_alloc | apply pw_below_drewN | apply below_drew1 | refine below_set ?_ (IsS57.ge HI0.out)) | exact HB.out)); rintro e w52 ⟨rfl, hi, hb, hk⟩; refine ⟨_, rfl, ?_⟩; have n0_ := Aside0.mk (Kd.S_mono (Kd.S_keep (IsS57.apartS (show IsS57 w0 _ g s0_0 x1001_13 from by repeat (first | (with_reducible first | exact HI0.out | apply IsS57.alloc | apply IsS57.drewN | apply IsS57.drew | apply IsS57.set_1) | exact HI0.out)) (by (with_reducible repeat (first | apply Kd.S_alloc | apply Kd.S_drewN | apply Kd.S_drew)); exact HO_6.out) (by decide)) hk (fun _ h => h.2)) (fun _ h => h.1)); have n1_ := Aside0.mk (KeepBut.trans (by repeat (first | (with_reducible first | exact HK.out | apply KeepBut.set_ | apply keep_drewN | apply keep_drew | apply keep_alloc) | exact HK.out)) hk (.inl rfl)); have n2_ := Aside0.mk (hb); have n3_ := Aside0.mk (hi); clear HO_6; clear HK; clear HB; clear HI0; have HO_6 := n0_; have HK := n1_; have HB := n2_; have HI0 := n3_; clear n0_ n1_ n2_ n3_; (try clear hb); (try clear hb2); (try clear hk); (try clear hi)) | ((with_reducible refine gate_callee (f := 55) rfl ?_); refine goesL_ (some 59) rfl rfl Try.func55 (by kernel_rfl) rfl #[.pointer (some ⟨g, 0, none⟩), .int .i64 3] rfl (by (try simp only [List.map_toArray, List.map_cons, List.map_nil]); first | done | rfl | (simp only [List.length_drop, List.length_take]; rfl)) ?_; (with_reducible refine (spec_l20Rd_pick.calls kj13 g s0_0 t207 3 t208 t209 w0 _ ?side1 ?side2 A42.out).mono ?_); (case side1 => repeat (first | (with_reducible first | exact HI0.out | apply IsS57.alloc | apply IsS57.drewN | apply IsS57.drew | apply IsS57.set_1) | exact HI0.out)); (case side2 => repeat (first | (with_reducible first | exact HB.out | apply below_alloc | apply pw_below_drewN | apply below_drew1 | refine below_set ?_ (IsS57.ge HI0.out)) | exact HB.out)); rintro e w53 ⟨rfl, hi, hb, hk⟩; refine ⟨_, rfl, ?_⟩; have n0_ := Aside0.mk (Kd.S_mono (Kd.S_keep (IsS57.apartS (show IsS57 w0 _ g s0_0 t207 from by repeat (first | (with_reducible first | exact HI0.out | apply IsS57.alloc | apply IsS57.drewN | apply IsS57.drew | apply IsS57.set_1) | exact HI0.out)) (by (with_reducible repeat (first | apply Kd.S_alloc | apply Kd.S_drewN | apply Kd.S_drew)); exact HO_6.out) (by decide)) hk (fun _ h => h.2)) (fun _ h => h.1)); have n1_ := Aside0.mk (KeepBut.trans (by repeat (first | (with_reducible first | exact HK.out | apply KeepBut.set_ | apply keep_drewN | apply keep_drew | apply keep_alloc) | exact HK.out)) hk (.inl rfl)); have n2_ := Aside0.mk (hb); have n3_ := Aside0.mk (hi); clear HO_6; clear HK; clear HB; clear HI0; have HO_6 := n0_; have HK := n1_; have HB := n2_; have HI0 := n3_; clear n0_ n1_ n2_ n3_; (try clear hb); (try clear hb2); (try clear hk); (try clear hi); obtain ⟨Ao54, co54, eo54⟩ := Kd.S_slice HO_6.out; subst eo54; have p213 : 0 ≤ (0 : Int) := (by omega); have q213 : 0 < (x6_13.length : Int) := of_decide_eq_true (by first | (with_reducible assumption) | assumption); obtain ⟨ad213, A213_0, c213_0, e213, hx213_0, hl213_0, hi213_0⟩ := at_L2 (Kd.S_reads' HO_6.out).2.2 0 p213 q213; cases e213; obtain ⟨ce213, hce213, hMe213, hcc213⟩ := Kd.S_get HO_6.out [] 0 p213 (by first | exact q213 | exact of_decide_eq_true (by first | (with_reducible assumption) | assumption) | (have e_ := (Kd.S_reads' HO_6.out).1; omega)); obtain ⟨ve213_0, rfl, ge213_0⟩ := hMe213; have hv213_0 := hcc213 0 _ rfl; rw [Nat.add_zero, show ((Kd.slice 3 (Kd.int .i64))).sz = 1 from rfl, Nat.mul_one] at hv213_0; replace hv213_0 := Option.some.inj (hv213_0.symm.trans hx213_0); rw [hv213_0] at ge213_0; have HL213_0 := Aside0.mk (show Kd.R (Kd.int .i64) 3 _ _ _ _ (rd_L2 x6_13 0) from ge213_0); clear hv213_0 ge213_0; have HX213_0 := Aside0.mk hx213_0; clear hcc213 hce213; have qi213 : (0 < x6_13.length) = True := eq_true (by omega); (try rw [show ((0 : Int)).toNat = 0 from rfl] at hx213_0); (try rw [Addr.add_zero'] at hx213_0); have HR213_0 := Aside0.mk hi213_0; have HC213_0 := Aside0.mk hl213_0; clear hi213_0 hl213_0; replace p213 := eq_true p213; replace q213 := eq_true q213; have p51 : 0 ≤ (0 : Int) := (by omega); have q51 : (0 : Int) < (((rd_L2 x6_13 0).length : Int) : Int) := of_decide_eq_true (by first | (with_reducible assumption) | assumption); have qi51 : (0 < (rd_L2 x6_13 0).length) = True := eq_true (by omega); obtain ⟨go51, co51, eo51, gb51, gl51, cl51, HG51⟩ := Kd.R_form HL213_0.out (by omega); (first | cases eo51 | (injection eo51 with ea_ en_ ec_; (first | subst ea_ | (injection ea_ with ea_; subst ea_)); subst ec_; clear en_)); have GB51 := Aside0.mk gb51; have GG51 := Aside0.mk HG51; clear gb51 gl51 HG51; obtain ⟨hx51_0, hf51_0⟩ := Kd.R_celln 0 HL213_0.out (0 : Int) p51 q51; (try rw [show ((0 : Int)).toNat = 0 from rfl] at hx51_0); (try simp only [Nat.reduceMul, Nat.zero_mul, Nat.zero_add, Nat.reduceAdd] at hx51_0); (try rw [show ((0 : Int)).toNat = 0 from rfl] at hf51_0); (try simp only [Nat.reduceMul, Nat.zero_mul, Nat.zero_add, Nat.reduceAdd] at hf51_0); replace p51 := eq_true p51; replace q51 := eq_true q51; have hq55 : (0 : Int) < (x6_13.length : Int) := (by have h_ : (0 : Int) < ((x6_13.length : Int) : Int) := of_decide_eq_true (by first | (with_reducible assumption) | assumption); first | exact h_ | (have e_ := (Kd.S_reads' HO_6.out).1; omega) | simpa only [List.length_set, List.length_set] using h_); obtain ⟨oki55, ce55, hcl55, hM55, hcc55, hok55, hbk55⟩ := Kd.S_borrow HO_6.out [] (0 : Int) (by omega) hq55; obtain ⟨ve55_0, rfl, ge55_0⟩ := hM55; have hv55 := hcc55 0 _ rfl; rw [Nat.add_zero, show ((Kd.slice 3 (Kd.int .i64))).sz = 1 from rfl, Nat.mul_one] at hv55; replace hv55 := Option.some.inj (hv55.symm.trans HX213_0.out); subst hv55; clear hcc55 hcl55; replace ge55_0 := (show Kd.R (Kd.int .i64) 3 _ _ _ _ (rd_L2 x6_13 0) from ge55_0); have HP55 := Kd.R_putg ge55_0 (0 : Int) 1) | ((with_reducible refine gate_store (t := 3) (p := 75) rfl ?_); refine store_event (t := 3) (p := 75) (v := ?vo_w56) (w1 := (w53.setCell ⟨go51, 0, none⟩ (.int .i64 1))) ?hg ?ho ?hn ?hr ?_; (case ho => rfl); (case hg => rfl); (case hn => rfl); (case hr => first | (go_simp; done) | (go_simp; rfl)); intro w56 hw; have hg : w53.grownBy w56 (some go51) := (by rw [hw]; exact HP55.2); have hz_ : Kd.R (Kd.int .i64) 3 w56 w.heap.size oki55 (.slice (some ⟨go51, 0, none⟩) (rd_L2 x6_13 0).length c213_0) y214 := (by rw [hw, Ny214.out]; exact HP55.1); have hp_ : Kd.S (Kd.slice 3 (Kd.int .i64)) 34 w56 w.heap.size (fun _ => True) (.slice (some ad213) x6_13.length co54) y216 := (by rw [Ny216.out]; exact hbk55 hg (fun k_ e_ => by injection e_ with e_; subst e_; exact ge55_0.1 _ rfl) (Kd.M_row hz_)); have hm_ := Kd.R_mono hz_ hok55; clear HP55 hbk55; have n0_ := Aside0.mk (hp_); have n1_ := Aside0.mk (IsS57.grown (by repeat (first | (with_reducible first | exact HI0.out | apply IsS57.alloc | apply IsS57.drewN | apply IsS57.drew | apply IsS57.set_1) | exact HI0.out)) hg (IsS57.own_ne HI0.out HL213_0.out (by decide))); have n2_ := Aside0.mk ((by rw [hw]; exact below_set (HB.out) (Nat.le_trans HL.out GB51.out) : Below w0.heap.size w0 w56)); have n3_ := Aside0.mk (KeepBut.trans (by repeat (first | (with_reducible first | exact HK.out | apply KeepBut.set_ | apply keep_drewN | apply keep_drew | apply keep_alloc) | exact HK.out)) (KeepBut.of_grown hg g) (Kd.R_base2 HL213_0.out)); have n4_ := Aside0.mk (hm_); have n5_ := Aside0.mk ((Kd.R_reads' hm_).2.1); clear HO_6; clear HI0; clear HB; clear HK; clear HL213_0; have HO_6 := n0_; have HI0 := n1_; have HB := n2_; have HK := n3_; have HL222 := n4_; have HC215 := n5_; clear n0_ n1_ n2_ n3_ n4_ n5_; clear hg hw hp_ hz_ hm_ hok55))
                  go_ret
                  exact ⟨_, by first | rfl | (simp [errW_none, errW_some] <;> rfl) | (simp only [← hji4, ← hji6]; first | rfl | (simp [errW_none, errW_some] <;> rfl)) | (simp [*, errW_none, errW_some] <;> rfl), by (with_reducible repeat (first | apply Kd.S_alloc | apply Kd.S_drewN | apply Kd.S_drew)); exact HO_6.out, by repeat (first | (with_reducible first | exact HI0.out | apply IsS57.alloc | apply IsS57.drewN | apply IsS57.drew | apply IsS57.set_1) | exact HI0.out), by repeat (first | (with_reducible first | exact HB.out | apply below_alloc | apply pw_below_drewN | apply below_drew1 | refine below_set ?_ (IsS57.ge HI0.out)) | exact HB.out), by repeat (first | (with_reducible first | exact HK.out | apply KeepBut.set_ | apply keep_drewN | apply keep_drew | apply keep_alloc) | exact HK.out)⟩
                · rw [if_neg c50] at H
                  exact absurd H (by simp)
              · rw [if_neg c49] at H
                exact absurd H (by simp)
            · rw [if_neg c48] at H
              have c48b0 : (t208 == 1) = false := beq_eq_false_iff_ne.mpr c48
              have c48b1 : (t208 != 1) = true := bne_iff_ne.mpr c48
              by_cases c57 : 0 < (x6_13.length : Int)
              · rw [if_pos c57] at H
                have c57b0 : decide (0 < (x6_13.length : Int)) = true := decide_eq_true c57
                have c57b1 : decide (0 < x6_13.length) = true := decide_eq_true (by omega)
                clear c57
                by_cases c58 : (rd_L2 x6_13 0).length < 17592186044416
                · rw [if_pos c58] at H
                  have LMc58 := Aside0.mk c58
                  clear c58
                  obtain ⟨y218, hy218⟩ : ∃ y_ : List Int, y_ = ((rd_L2 x6_13 0) ++ [0]) := ⟨_, rfl⟩
                  replace H : (some ((x6_13.set (0 : Int).toNat y218), t209)) = some (r1, r2) := by first | (rw [hy218]; with_reducible exact H) | (have H2_ := (Option.bind_some _ _).symm.trans H; rw [hy218]; with_reducible exact H2_) | (have H2_ := (Option.bind_some _ _).symm.trans H; with_reducible exact H2_) | with_reducible exact H | (rw [hy218]; exact H) | exact H
                  have Ny218 := Aside0.mk hy218
                  clear hy218
                  obtain ⟨y221, hy221⟩ : ∃ y_ : List (List Int), y_ = (x6_13.set (0 : Int).toNat y218) := ⟨_, rfl⟩
                  replace H : (some (y221, t209)) = some (r1, r2) := by first | (rw [hy221]; with_reducible exact H) | (have H2_ := (Option.bind_some _ _).symm.trans H; rw [hy221]; with_reducible exact H2_) | (have H2_ := (Option.bind_some _ _).symm.trans H; with_reducible exact H2_) | with_reducible exact H | (rw [hy221]; exact H) | exact H
                  have Ny221 := Aside0.mk hy221
                  clear hy221
                  simp only [Option.some.injEq, Prod.mk.injEq] at H
                  obtain ⟨rfl, rfl⟩ := H
                  go_wp2_with (first | ((with_reducible refine gate_callee (f := 64) rfl ?_); refine goesL_ (some 57) rfl rfl Try.func64 (by kernel_rfl) rfl #[.pointer (some ⟨g, 0, none⟩), .int .i64 a1] rfl (by (try simp only [List.map_toArray, List.map_cons, List.map_nil]); first | done | rfl | (simp only [List.length_drop, List.length_take]; rfl)) ?_; (with_reducible refine (spec_l20Rd_odd.calls kj13 g s0_0 x1001_13 a1 true t207 w0 _ ?side1 ?side2 A40.out).mono ?_); (case side1 => repeat (first | (with_reducible first | exact HI0.out | apply IsS57.alloc | apply IsS57.drewN | apply IsS57.drew | apply IsS57.set_1) | exact HI0.out)); (case side2 => repeat (first | (with_reducible first | exact HB.out | apply below_alloc | apply pw_below_drewN | apply below_drew1 | refine below_set ?_ (IsS57.ge HI0.out)) | exact HB.out)); rintro e w60 ⟨rfl, hi, hb, hk⟩; refine ⟨_, rfl, ?_⟩; have n0_ := Aside0.mk (Kd.S_mono (Kd.S_keep (IsS57.apartS (show IsS57 w0 _ g s0_0 x1001_13 from by repeat (first | (with_reducible first | exact HI0.out | apply IsS57.alloc | apply IsS57.drewN | apply IsS57.drew | apply IsS57.set_1) | exact HI0.out)) (by (with_reducible repeat (first | apply Kd.S_alloc | apply Kd.S_drewN | apply Kd.S_drew)); exact HO_6.out) (by decide)) hk (fun _ h => h.2)) (fun _ h => h.1)); have n1_ := Aside0.mk (KeepBut.trans (by repeat (first | (with_reducible first | exact HK.out | apply KeepBut.set_ | apply keep_drewN | apply keep_drew | apply keep_alloc) | exact HK.out)) hk (.inl rfl)); have n2_ := Aside0.mk (hb); have n3_ := Aside0.mk (hi); clear HO_6; clear HK; clear HB; clear HI0; have HO_6 := n0_; have HK := n1_; have HB := n2_; have HI0 := n3_; clear n0_ n1_ n2_ n3_; (try clear hb); (try clear hb2); (try clear hk); (try clear hi)) | ((with_reducible refine gate_callee (f := 55) rfl ?_); refine goesL_ (some 59) rfl rfl Try.func55 (by kernel_rfl) rfl #[.pointer (some ⟨g, 0, none⟩), .int .i64 3] rfl (by (try simp only [List.map_toArray, List.map_cons, List.map_nil]); first | done | rfl | (simp only [List.length_drop, List.length_take]; rfl)) ?_; (with_reducible refine (spec_l20Rd_pick.calls kj13 g s0_0 t207 3 t208 t209 w0 _ ?side1 ?side2 A42.out).mono ?_); (case side1 => repeat (first | (with_reducible first | exact HI0.out | apply IsS57.alloc | apply IsS57.drewN | apply IsS57.drew | apply IsS57.set_1) | exact HI0.out)); (case side2 => repeat (first | (with_reducible first | exact HB.out | apply below_alloc | apply pw_below_drewN | apply below_drew1 | refine below_set ?_ (IsS57.ge HI0.out)) | exact HB.out)); rintro e w61 ⟨rfl, hi, hb, hk⟩; refine ⟨_, rfl, ?_⟩; have n0_ := Aside0.mk (Kd.S_mono (Kd.S_keep (IsS57.apartS (show IsS57 w0 _ g s0_0 t207 from by repeat (first | (with_reducible first | exact HI0.out | apply IsS57.alloc | apply IsS57.drewN | apply IsS57.drew | apply IsS57.set_1) | exact HI0.out)) (by (with_reducible repeat (first | apply Kd.S_alloc | apply Kd.S_drewN | apply Kd.S_drew)); exact HO_6.out) (by decide)) hk (fun _ h => h.2)) (fun _ h => h.1)); have n1_ := Aside0.mk (KeepBut.trans (by repeat (first | (with_reducible first | exact HK.out | apply KeepBut.set_ | apply keep_drewN | apply keep_drew | apply keep_alloc) | exact HK.out)) hk (.inl rfl)); have n2_ := Aside0.mk (hb); have n3_ := Aside0.mk (hi); clear HO_6; clear HK; clear HB; clear HI0; have HO_6 := n0_; have HK := n1_; have HB := n2_; have HI0 := n3_; clear n0_ n1_ n2_ n3_; (try clear hb); (try clear hb2); (try clear hk); (try clear hi); obtain ⟨Ao62, co62, eo62⟩ := Kd.S_slice HO_6.out; subst eo62; have p217 : 0 ≤ (0 : Int) := (by omega); have q217 : 0 < (x6_13.length : Int) := of_decide_eq_true (by first | (with_reducible assumption) | assumption); obtain ⟨ad217, A217_0, c217_0, e217, hx217_0, hl217_0, hi217_0⟩ := at_L2 (Kd.S_reads' HO_6.out).2.2 0 p217 q217; cases e217; obtain ⟨ce217, hce217, hMe217, hcc217⟩ := Kd.S_get HO_6.out [] 0 p217 (by first | exact q217 | exact of_decide_eq_true (by first | (with_reducible assumption) | assumption) | (have e_ := (Kd.S_reads' HO_6.out).1; omega)); obtain ⟨ve217_0, rfl, ge217_0⟩ := hMe217; have hv217_0 := hcc217 0 _ rfl; rw [Nat.add_zero, show ((Kd.slice 3 (Kd.int .i64))).sz = 1 from rfl, Nat.mul_one] at hv217_0; replace hv217_0 := Option.some.inj (hv217_0.symm.trans hx217_0); rw [hv217_0] at ge217_0; have HL217_0 := Aside0.mk (show Kd.R (Kd.int .i64) 3 _ _ _ _ (rd_L2 x6_13 0) from ge217_0); clear hv217_0 ge217_0; have HX217_0 := Aside0.mk hx217_0; clear hcc217 hce217; have qi217 : (0 < x6_13.length) = True := eq_true (by omega); (try rw [show ((0 : Int)).toNat = 0 from rfl] at hx217_0); (try rw [Addr.add_zero'] at hx217_0); have HR217_0 := Aside0.mk hi217_0; have HC217_0 := Aside0.mk hl217_0; clear hi217_0 hl217_0; replace p217 := eq_true p217; replace q217 := eq_true q217; obtain ⟨go63, co63, eo63, gb63, gl63, cl63, HG63⟩ := Kd.S_form HO_6.out (by have h_ : (0 : Int) < ((x6_13.length : Int) : Int) := of_decide_eq_true (by first | (with_reducible assumption) | assumption); have h2_ : 0 ≤ (0 : Int) := (by omega); omega); (first | cases eo63 | (injection eo63 with ea_ en_ ec_; (first | subst ea_ | (injection ea_ with ea_; subst ea_)); subst ec_; clear en_)); have GB63 := Aside0.mk gb63; have GG63 := Aside0.mk HG63; clear gb63 gl63 HG63; (first | simp only [add_plain] at hx217_0 | skip); obtain ⟨oki63, ce63, hcl63, hM63, hcc63, _, _, hH63⟩ := Kd.S_elem HO_6.out [] (0 : Int) (by omega) (by have h_ : (0 : Int) < ((x6_13.length : Int) : Int) := of_decide_eq_true (by first | (with_reducible assumption) | assumption); first | exact h_ | (have e_ := (Kd.S_reads' HO_6.out).1; omega) | simpa using h_); obtain ⟨ve63_0, rfl, ge63_0⟩ := hM63; have hv63 := hcc63 0 _ rfl; have hX63 := HX217_0.out; (try simp only [add_plain] at hX63); (try simp only [Nat.add_zero] at hv63); (try rw [show ((Kd.slice 3 (Kd.int .i64))).sz = 1 from rfl, Nat.mul_one] at hv63); replace hv63 := Option.some.inj (hv63.symm.trans hX63); subst hv63; clear hX63 hcc63 hcl63; have UU63 := Aside0.mk (show Kd.R (Kd.int .i64) 3 _ w.heap.size oki63 (.slice A217_0 (rd_L2 x6_13 0).length c217_0) (rd_L2 x6_13 0) from ge63_0); have HH63 := Aside0.mk hH63; have HN63 := Aside0.mk (Kd.S_reads' HO_6.out).1; clear hH63 ge63_0) | ((with_reducible refine gate_builtin (b := .append) (xs := #[.tmp 63, .tmp 64]) rfl ?_); at_builtin; refine Kd.R_append (Kd.int .i64) w.heap.size rfl (.tmp 63) (.tmp 64) 34 3 (.int .i64 0) 8 rfl Try.underlying34 info3 rfl (by decide) (by omega) (.slice A217_0 (rd_L2 x6_13 0).length c217_0) (rd_L2 x6_13 0) 0 [.int .i64 0] (fun k_ => oki63 k_ ∨ ((fun _ => True)) k_ ∧ w61.heap.size ≤ k_) (fun _ => False) rfl rfl ?aP (fun _ hk => hk.elim) ?aF ?aO (Below.refl _ _) ?aS ?aL ?_; (case aP => exact rfl); (case aF => exact (fun k_ hk => .inr ⟨trivial, hk⟩)); (case aO => exact (by (with_reducible repeat (first | apply Kd.R_alloc | apply Kd.R_drewN | apply Kd.R_drew)); exact Kd.R_mono UU63.out (fun _ hk => .inl hk))); (case aS => exact (keep_size (w := w) (g := g) (row := none) (by repeat (first | (with_reducible first | exact HK.out | apply KeepBut.set_ | apply keep_drewN | apply keep_drew | apply keep_alloc) | exact HK.out)))); (case aL => have := LMc58.out; omega); intro v219 w64 ho hb hg hat; rw [← Ny218.out] at ho; have n0_ := Aside0.mk (IsS57.grown (by repeat (first | (with_reducible first | exact HI0.out | apply IsS57.alloc | apply IsS57.drewN | apply IsS57.drew | apply IsS57.set_1) | exact HI0.out)) hg (IsS57.own_ne HI0.out HL217_0.out (by decide))); have n1_ := Aside0.mk (below_weaken (by repeat (first | (with_reducible first | exact HB.out | apply below_alloc | apply pw_below_drewN | apply below_drew1 | refine below_set ?_ (IsS57.ge HI0.out)) | exact HB.out)) HL.out hb); have n2_ := Aside0.mk (KeepBut.trans (by repeat (first | (with_reducible first | exact HK.out | apply KeepBut.set_ | apply keep_drewN | apply keep_drew | apply keep_alloc) | exact HK.out)) (KeepBut.of_grown hg g) (Kd.R_base2 HL217_0.out)); have n3_ := Aside0.mk (Kd.H_grown (Kd.H_widen (by repeat (first | exact HH63.out | refine Kd.H_alloc ?_ _ | refine Kd.H_drewN ?_ _ | refine Kd.H_drew ?_))) hg (fun k_ e_ => .inl (UU63.out.1 k_ e_))); have n4_ := Aside0.mk (ho); clear HI0; clear HB; clear HK; clear HH63; clear HO_6; clear UU63; clear HL217_0; have HI0 := n0_; have HB := n1_; have HK := n2_; have HH63 := n3_; have HO220 := n4_; clear n0_ n1_ n2_ n3_ n4_; clear ho hb hg hat; have p59 : 0 ≤ (0 : Int) := (by omega); have q59 : (0 : Int) < ((x6_13.length : Int) : Int) := of_decide_eq_true (by first | (with_reducible assumption) | assumption); replace p59 := eq_true p59; replace q59 := eq_true q59; obtain ⟨Ao67, co67, eo67⟩ := Kd.R_slice HO220.out; subst eo67; obtain ⟨_, _, hraw65, _, _, hcc65, _⟩ := Kd.H_raw HH63.out (by omega) (by have h_ : (0 : Int) < ((x6_13.length : Int) : Int) := of_decide_eq_true (by first | (with_reducible assumption) | assumption); first | exact h_ | (have e_ := (HN63.out); omega) | simpa using h_); obtain ⟨_, hfr65⟩ := Kd.H_at HH63.out (by omega) (by have h_ : (0 : Int) < ((x6_13.length : Int) : Int) := of_decide_eq_true (by first | (with_reducible assumption) | assumption); first | exact h_ | (have e_ := (HN63.out); omega) | simpa using h_); have hx65_0 := hcc65 0 _ rfl; have hf65_0 := hfr65 0; (try simp only [Nat.add_zero] at hx65_0 hf65_0); (try rw [show ((Kd.slice 3 (Kd.int .i64))).sz = 1 from rfl, Nat.mul_one] at hx65_0); (try rw [show ((Kd.slice 3 (Kd.int .i64))).sz = 1 from rfl, Nat.mul_one] at hf65_0); (try rw [show ((0 : Int)).toNat = 0 from rfl] at hx65_0); (try simp only [Nat.reduceMul, Nat.zero_mul, Nat.zero_add, Nat.reduceAdd] at hx65_0); (try rw [show ((0 : Int)).toNat = 0 from rfl] at hf65_0); (try simp only [Nat.reduceMul, Nat.zero_mul, Nat.zero_add, Nat.reduceAdd] at hf65_0); have HP65 := Kd.S_seg0 HH63.out (by omega) (by have h_ : (0 : Int) < ((x6_13.length : Int) : Int) := of_decide_eq_true (by first | (with_reducible assumption) | assumption); first | exact h_ | (have e_ := (HN63.out); omega) | simpa using h_) (seg := [.slice Ao67 y218.length co67]) (j := 0) (show 1 ≤ 1 from by decide) (x' := y218) (Kd.M_row HO220.out) (fun _ hk => hk); (try simp only [show ((Kd.slice 3 (Kd.int .i64))).sz = 1 from rfl, Nat.mul_one, Nat.add_zero] at HP65); clear hcc65 hfr65) | ((with_reducible refine gate_store (t := 34) (p := 66) rfl ?_); refine store_event (t := 34) (p := 66) (v := ?vo_w66) (w1 := (w64.setCell ⟨go63, (0 : Int).toNat, none⟩ (.slice Ao67 y218.length co67))) ?hg ?ho ?hn ?hr ?_; (case ho => rfl); (case hg => rfl); (case hn => rfl); (case hr => first | (go_simp; done) | (go_simp; rfl)); intro w66 hw; have hg : w64.grownBy w66 (some go63) := (by rw [hw]; exact HP65.2); have hp_ : Kd.S (Kd.slice 3 (Kd.int .i64)) 34 w66 w.heap.size (fun _ => True) (.slice (some ⟨go63, 0, none⟩) x6_13.length co62) y221 := (by rw [hw, Ny221.out]; exact HP65.1); clear HP65; have n0_ := Aside0.mk (IsS57.grown (by repeat (first | (with_reducible first | exact HI0.out | apply IsS57.alloc | apply IsS57.drewN | apply IsS57.drew | apply IsS57.set_1) | exact HI0.out)) hg (IsS57.own_ne HI0.out hraw65 (by decide))); have n1_ := Aside0.mk ((by rw [hw]; exact below_set HB.out (Nat.le_trans HL.out GB63.out) : Below w0.heap.size w0 w66)); have n2_ := Aside0.mk (KeepBut.trans (by repeat (first | (with_reducible first | exact HK.out | apply KeepBut.set_ | apply keep_drewN | apply keep_drew | apply keep_alloc) | exact HK.out)) (KeepBut.of_grown hg g) (Kd.R_base2 hraw65)); have n3_ := Aside0.mk (hp_); clear HI0; clear HB; clear HK; clear HO220; clear HH63; have HI0 := n0_; have HB := n1_; have HK := n2_; have HO_6 := n3_; clear n0_ n1_ n2_ n3_; clear hg hw hp_ hraw65))
                  go_ret
                  exact ⟨_, by first | rfl | (simp [errW_none, errW_some] <;> rfl) | (simp only [← hji4, ← hji6]; first | rfl | (simp [errW_none, errW_some] <;> rfl)) | (simp [*, errW_none, errW_some] <;> rfl), by (with_reducible repeat (first | apply Kd.S_alloc | apply Kd.S_drewN | apply Kd.S_drew)); exact HO_6.out, by repeat (first | (with_reducible first | exact HI0.out | apply IsS57.alloc | apply IsS57.drewN | apply IsS57.drew | apply IsS57.set_1) | exact HI0.out), by repeat (first | (with_reducible first | exact HB.out | apply below_alloc | apply pw_below_drewN | apply below_drew1 | refine below_set ?_ (IsS57.ge HI0.out)) | exact HB.out), by repeat (first | (with_reducible first | exact HK.out | apply KeepBut.set_ | apply keep_drewN | apply keep_drew | apply keep_alloc) | exact HK.out)⟩
                · rw [if_neg c58] at H
                  exact absurd H (by simp)
              · rw [if_neg c57] at H
                exact absurd H (by simp)
        · replace c41 := Bool.eq_false_iff.mpr c41
          subst c41
          have H1 : (some (x6_13, t207)) = some (r1, r2) := by rw [if_neg (show ¬ (false = true) by decide)] at H; exact H
          clear H
          have H := H1
          clear H1
          simp only [Option.some.injEq, Prod.mk.injEq] at H
          obtain ⟨rfl, rfl⟩ := H
          go_wp2_with (first | ((with_reducible refine gate_callee (f := 64) rfl ?_); refine goesL_ (some 57) rfl rfl Try.func64 (by kernel_rfl) rfl #[.pointer (some ⟨g, 0, none⟩), .int .i64 a1] rfl (by (try simp only [List.map_toArray, List.map_cons, List.map_nil]); first | done | rfl | (simp only [List.length_drop, List.length_take]; rfl)) ?_; (with_reducible refine (spec_l20Rd_odd.calls kj13 g s0_0 x1001_13 a1 false t207 w0 _ ?side1 ?side2 A40.out).mono ?_); (case side1 => repeat (first | (with_reducible first | exact HI0.out | apply IsS57.alloc | apply IsS57.drewN | apply IsS57.drew | apply IsS57.set_1) | exact HI0.out)); (case side2 => repeat (first | (with_reducible first | exact HB.out | apply below_alloc | apply pw_below_drewN | apply below_drew1 | refine below_set ?_ (IsS57.ge HI0.out)) | exact HB.out)); rintro e w68 ⟨rfl, hi, hb, hk⟩; refine ⟨_, rfl, ?_⟩; have n0_ := Aside0.mk (Kd.S_mono (Kd.S_keep (IsS57.apartS (show IsS57 w0 _ g s0_0 x1001_13 from by repeat (first | (with_reducible first | exact HI0.out | apply IsS57.alloc | apply IsS57.drewN | apply IsS57.drew | apply IsS57.set_1) | exact HI0.out)) (by (with_reducible repeat (first | apply Kd.S_alloc | apply Kd.S_drewN | apply Kd.S_drew)); exact HO_6.out) (by decide)) hk (fun _ h => h.2)) (fun _ h => h.1)); have n1_ := Aside0.mk (KeepBut.trans (by repeat (first | (with_reducible first | exact HK.out | apply KeepBut.set_ | apply keep_drewN | apply keep_drew | apply keep_alloc) | exact HK.out)) hk (.inl rfl)); have n2_ := Aside0.mk (hb); have n3_ := Aside0.mk (hi); clear HO_6; clear HK; clear HB; clear HI0; have HO_6 := n0_; have HK := n1_; have HB := n2_; have HI0 := n3_; clear n0_ n1_ n2_ n3_; (try clear hb); (try clear hb2); (try clear hk); (try clear hi)))
          go_ret
          exact ⟨_, by first | rfl | (simp [errW_none, errW_some] <;> rfl) | (simp only [← hji4, ← hji6]; first | rfl | (simp [errW_none, errW_some] <;> rfl)) | (simp [*, errW_none, errW_some] <;> rfl), by (with_reducible repeat (first | apply Kd.S_alloc | apply Kd.S_drewN | apply Kd.S_drew)); exact HO_6.out, by repeat (first | (with_reducible first | exact HI0.out | apply IsS57.alloc | apply IsS57.drewN | apply IsS57.drew | apply IsS57.set_1) | exact HI0.out), by repeat (first | (with_reducible first | exact HB.out | apply below_alloc | apply pw_below_drewN | apply below_drew1 | refine below_set ?_ (IsS57.ge HI0.out)) | exact HB.out), by repeat (first | (with_reducible first | exact HK.out | apply KeepBut.set_ | apply keep_drewN | apply keep_drew | apply keep_alloc) | exact HK.out)⟩
  · rw [if_neg c5] at H
    exact absurd H (by simp)

/-! ### spec_DrawSyndromeOk: function 27 -/
def spec_DrawSyndromeOk.f (k : Nat) (l0 : List Int) : Option ((List (List Int))) := (spec_l20Open.f l0).bind fun bt223 => ((spec_l20Syndrome.f k bt223.1 bt223.2 2).bind fun bt226 => (some bt226.1))
theorem spec_DrawSyndromeOk.mono : ∀ a0 k, LeO (spec_DrawSyndromeOk.f k a0) (spec_DrawSyndromeOk.f (k + 1) a0) := by
  intro a0 k
  unfold spec_DrawSyndromeOk.f
  repeat' first
      | (with_reducible exact spec_l20Syndrome.mono _ _ _ _)
      | (with_reducible exact LeO.refl _)
      | (with_reducible exact LeO.none _)
      | (with_reducible refine LeO.ite ?_ ?_)
      | (with_reducible refine LeO.bind ?_ (fun _ => ?_))
      | exact spec_l20Syndrome.mono _ _ _ _
      | exact LeO.none _
      | refine LeO.ite ?_ ?_
      | refine LeO.bind ?_ (fun _ => ?_)
set_option maxHeartbeats 8000000 in
set_option maxRecDepth 100000 in
theorem spec_DrawSyndromeOk.calls (k : Nat) (A0 : Option Addr) (c0 : Nat) (l0 : List Int) (r : List (List Int)) (w : World) (hr0 : Kd.C (Kd.int .u8) w A0 l0.length l0) (hc0 : l0.length ≤ c0) (h : spec_DrawSyndromeOk.f k l0 = some r) :
    Calls Try.prog 27 #[.slice A0 l0.length c0] w fun e w' => ∃ v0_ : Value, e = .returned (v0_) ∧ Kd.S (Kd.slice 3 (Kd.int .i64)) 34 w' w.heap.size (fun _ => True) v0_ r ∧ Below w.heap.size w w' := by
  have HR0 := Aside0.mk hr0
  have HC0 := Aside0.mk hc0
  clear hr0 hc0
  have HB := Aside0.mk (Below.refl w.heap.size w)
  have H : ((spec_l20Open.f l0).bind fun bt223 => ((spec_l20Syndrome.f k bt223.1 bt223.2 2).bind fun bt226 => (some bt226.1))) = some r := h
  clear h
  replace H := Option.bind_eq_some_iff.mp H
  obtain ⟨⟨t223, t224⟩, A20, H⟩ := H
  replace H : ((spec_l20Syndrome.f k t223 t224 2).bind fun bt226 => (some bt226.1)) = some r := H
  have A2 := Aside0.mk A20
  clear A20
  replace H := Option.bind_eq_some_iff.mp H
  obtain ⟨⟨t226, t229⟩, A30, H⟩ := H
  replace H : (some t226) = some r := H
  have A3 := Aside0.mk A30
  clear A30
  obtain rfl := Option.some.inj H
  go_enter Try.func27, Try.ntmps27
  go_wp2_with (first | ((with_reducible refine gate_callee (f := 54) rfl ?_); refine goesL_ (some 4) rfl rfl Try.func54 (by kernel_rfl) rfl #[.slice A0 l0.length c0] rfl (by (try simp only [List.map_toArray, List.map_cons, List.map_nil]); first | done | rfl | (simp only [List.length_drop, List.length_take]; rfl)) ?_; (with_reducible refine (spec_l20Open.calls _ _ l0 t223 t224 w _ ?side1 ?side2 ?side3 A2.out).mono ?_); (case side1 => repeat (first | (with_reducible first | exact HB.out | apply below_alloc | apply pw_below_drewN | apply below_drew1) | exact HB.out)); (case side2 => exact HR0.out); (case side3 => exact HC0.out); rintro e w4 ⟨g225, rfl, hi, hb, hb2⟩; refine ⟨_, rfl, ?_⟩; have n0_ := Aside0.mk (hb); have n1_ := Aside0.mk (hi); clear HB; have HB := n0_; have HI225 := n1_; clear n0_ n1_; (try clear hb); (try clear hb2); (try clear hk); (try clear hi)) | ((with_reducible refine gate_callee (f := 59) rfl ?_); refine goesL_ (some 5) rfl rfl Try.func59 (by kernel_rfl) rfl #[.pointer (some ⟨g225, 0, none⟩), .int .i64 2] rfl (by (try simp only [List.map_toArray, List.map_cons, List.map_nil]); first | done | rfl | (simp only [List.length_drop, List.length_take]; rfl)) ?_; (with_reducible refine (spec_l20Syndrome.calls k g225 t223 t224 2 t226 t229 w _ ?side1 ?side2 A3.out).mono ?_); (case side1 => repeat (first | (with_reducible first | exact HI225.out | apply IsS57.alloc | apply IsS57.drewN | apply IsS57.drew | apply IsS57.set_1) | exact HI225.out)); (case side2 => repeat (first | (with_reducible first | exact HB.out | apply below_alloc | apply pw_below_drewN | apply below_drew1 | refine below_set ?_ (IsS57.ge HI225.out)) | exact HB.out)); rintro e w5 ⟨v227, rfl, ho0, hi, hb, hk⟩; refine ⟨_, rfl, ?_⟩; have n0_ := Aside0.mk (Kd.S_lower ho0 (below_size (by repeat (first | (with_reducible first | exact HB.out | apply below_alloc | apply pw_below_drewN | apply below_drew1 | refine below_set ?_ (IsS57.ge HI225.out)) | exact HB.out)))); have n1_ := Aside0.mk (hb); have n2_ := Aside0.mk (hi); clear HB; clear HI225; have HO228 := n0_; have HB := n1_; have HI225 := n2_; clear n0_ n1_ n2_; (try clear hb); (try clear hb2); (try clear hk); (try clear hi); (try clear ho0)))
  go_ret
  exact ⟨_, by first | rfl | (simp [errW_none, errW_some] <;> rfl) | (simp [*, errW_none, errW_some] <;> rfl), by (with_reducible repeat (first | apply Kd.S_alloc | apply Kd.S_drewN | apply Kd.S_drew)); exact HO228.out, by repeat (first | (with_reducible first | exact HB.out | apply below_alloc | apply pw_below_drewN | apply below_drew1 | refine below_set ?_ (IsS57.ge HI225.out)) | exact HB.out)⟩

end Go.Proofs.Ytgfchnfceomcbaa.P

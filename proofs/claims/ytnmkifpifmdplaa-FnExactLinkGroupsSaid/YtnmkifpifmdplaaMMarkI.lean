/- The exact laws' helpers over whole numbers that mark a result and look whether it is still held. -/
import Derived.Test.YtnmkifpifmdplaaMList
import Derived.Test.YtnmkifpifmdplaaPx24
import Derived.Test.YtnmkifpifmdplaaPx24
import Derived.Test.YtnmkifpifmdplaaPx24
set_option linter.unusedVariables false
set_option linter.unusedSimpArgs false
namespace Go.Proofs.Ytnmkifpifmdplaa.M
open Go Go.RowKit Go.Proofs.YtnmkifpifmdplaaW.PrintWords Go.Proofs.Ytnmkifpifmdplaa.P
def markedI (n : Nat) (a : Int) : List Int := (List.range n).map fun j : Nat => a + (j : Int)
theorem markedI_len (n : Nat) (a : Int) : (markedI n a).length = n := by simp [markedI]
theorem markedI_getD (n : Nat) (a : Int) (j : Nat) (h : j < n) : (markedI n a).getD j 0 = a + (j : Int) := by
  rw [getD_lt _ _ _ (by rw [markedI_len]; exact h)]
  simp [markedI]
theorem mark_int_l (n : Nat) (a : Int) (hn : n ≤ 1048576) (h0 : 0 ≤ a) (h1 : a ≤ 1000000000) : ∀ d i (x : List Int), i + d = n → x.length = n → (∀ j, j < i → x.getD j 0 = a + (j : Int)) →
    Ev (fun k => laws_markIntS.l0 k x (a + (i : Int)) (i : Int)) (a + (n : Int), markedI n a) := by
  intro d
  induction d with
  | zero =>
    intro i x hi hx h
    obtain rfl : i = n := by omega
    refine Ev.step (fun k => by rw [laws_markIntS.l0]) ?_
    refine ev_neg (by omega) (ev_ret ?_)
    rw [ext_getD 0 x (markedI i a) (by rw [markedI_len, hx]) fun j hj => by
      rw [markedI_len] at hj
      rw [h j hj, markedI_getD _ _ _ hj]]
  | succ d ih =>
    intro i x hi hx h
    refine Ev.step (fun k => by rw [laws_markIntS.l0]) ?_
    rw [w64s (by omega), w64 (x := a + (i : Int) + 1) (by omega) (by omega), Int.toNat_natCast, show a + (i : Int) + 1 = a + ((i + 1 : Nat) : Int) by omega]
    refine ev_pos (by omega) ?_
    refine ev_pos (by omega) ?_
    refine ih (i + 1) _ (by omega) (by simpa using hx) fun j hj => ?_
    rw [set_getD 0 x i _ (by omega)]
    split
    · rename_i e
      rw [e]
    · exact h j (by omega)
theorem mark_int (x : List Int) (a : Int) (hn : x.length ≤ 1048576) (h0 : 0 ≤ a) (h1 : a ≤ 1000000000) : Ev (fun k => laws_markIntS.f k x a) (a + (x.length : Int), markedI x.length a) := by
  unfold laws_markIntS.f
  have := mark_int_l x.length a hn h0 h1 x.length 0 x (by omega) rfl (fun j hj => by omega)
  simpa using this
theorem held_int_l (n : Nat) (a : Int) (hn : n ≤ 1048576) (h0 : 0 ≤ a) (h1 : a ≤ 1000000000) : ∀ d i, i + d = n → Ev (fun k => laws_heldIntS.l0 k (markedI n a) (a + (i : Int)) (i : Int)) (a + (n : Int)) := by
  intro d
  induction d with
  | zero =>
    intro i hi
    obtain rfl : i = n := by omega
    refine Ev.step (fun k => by rw [laws_heldIntS.l0]) ?_
    rw [markedI_len]
    exact ev_neg (by omega) (ev_ret rfl)
  | succ d ih =>
    intro i hi
    refine Ev.step (fun k => by rw [laws_heldIntS.l0]) ?_
    rw [markedI_len, rdN, markedI_getD n a i (by omega), w64s (by omega), w64 (x := a + (i : Int) + 1) (by omega) (by omega), show a + (i : Int) + 1 = a + ((i + 1 : Nat) : Int) by omega]
    refine ev_pos (by omega) ?_
    refine ev_pos (by omega) ?_
    refine ev_pos rfl ?_
    exact ih (i + 1) (by omega)
theorem held_int (n : Nat) (a : Int) (hn : n ≤ 1048576) (h0 : 0 ≤ a) (h1 : a ≤ 1000000000) : Ev (fun k => laws_heldIntS.f k (markedI n a) a) (a + (n : Int)) := by
  unfold laws_heldIntS.f
  have := held_int_l n a hn h0 h1 n 0 (by omega)
  simpa using this
theorem eq_ints_l (l : List Int) (hn : l.length ≤ 1048576) : ∀ d i, i + d = l.length → Ev (fun k => laws_eqIntS.l0 k l l (i : Int)) true := by
  intro d
  induction d with
  | zero =>
    intro i hi
    refine Ev.step (fun k => by rw [laws_eqIntS.l0]) ?_
    exact ev_neg (by omega) (ev_ret rfl)
  | succ d ih =>
    intro i hi
    refine Ev.step (fun k => by rw [laws_eqIntS.l0]) ?_
    rw [w64s (by omega)]
    refine ev_pos (by omega) ?_
    refine ev_pos (by omega) ?_
    refine ev_pos (by omega) ?_
    exact ev_pos rfl (ih (i + 1) (by omega))
theorem eq_ints (l : List Int) (hn : l.length ≤ 1048576) : Ev (fun k => laws_eqIntS.f k l l) true := by
  unfold laws_eqIntS.f
  exact ev_pos rfl (eq_ints_l l hn l.length 0 (by omega))
end Go.Proofs.Ytnmkifpifmdplaa.M

/- Terms: a row of marks is a term just if it is what a tree writes; both TermOk tell so, and both ways of asking whether a term holds tell the tree's value. -/
import Derived.Test.YtbhmippoeimliaaMList
import Derived.Test.YtbhmippoeimliaaPx6
import Derived.Test.YtbhmippoeimliaaPx2
import Derived.Test.YtbhmippoeimliaaPx8
import Derived.Test.YtbhmippoeimliaaPx7
set_option linter.unusedVariables false
set_option linter.unusedSimpArgs false
namespace Go.Proofs.Ytbhmippoeimliaa.M
open Go Go.RowKit Go.Proofs.YtbhmippoeimliaaW.PrintWords Go.Proofs.Ytbhmippoeimliaa.P
abbrev Mk := S81
abbrev zM : Mk := z81
theorem peopleOkT (n : Int) : impl_peopleOk.f n = some (decide (1 ≤ n ∧ n ≤ 4)) := by
  unfold impl_peopleOk.f
  by_cases h : n ≥ 1
  · rw [if_pos h]
    simp [h]
  · rw [if_neg h]
    simp
    intro h'
    omega
theorem rdM (s : List Mk) (i : Nat) : rd_T81 s (i : Int) = s.getD i zM := by simp [rd_T81]
theorem pwm4 {n : Nat} (h : n ≤ 4) : pw n ≤ 16 := Nat.pow_le_pow_right (n := 2) (by decide) h

/-! ### which rows are terms -/
/-- How many parts there are behind a mark. -/
def stepP (n : Int) (p : Nat) (m : Mk) : Option Nat :=
  if m.f0 = 0 then (if 0 ≤ m.f1 ∧ m.f1 < n then some (p + 1) else none)
  else if m.f0 = 1 then (if 0 ≤ m.f1 ∧ m.f1 ≤ n + 1 then some (p + 1) else none)
  else if m.f0 = 2 then (if m.f1 = 0 ∧ 1 ≤ p then some p else none)
  else if 3 ≤ m.f0 ∧ m.f0 ≤ 5 then (if m.f1 = 0 ∧ 2 ≤ p then some (p - 1) else none)
  else none
def foldP (n : Int) : Nat → List Mk → Option Nat
  | p, [] => some p
  | p, m :: l => (stepP n p m).bind fun q => foldP n q l
/-- A term for so many people. -/
def TermP (n : Int) (l : List Mk) : Prop := (1 ≤ n ∧ n ≤ 4) ∧ l.length ≤ 15 ∧ foldP n 0 l = some 1
instance (n : Int) (l : List Mk) : Decidable (TermP n l) := by unfold TermP; infer_instance
theorem stepP_le {n : Int} {p q : Nat} {m : Mk} (h : stepP n p m = some q) : q ≤ p + 1 := by
  unfold stepP at h
  repeat' split at h
  all_goals first | (cases h; omega) | cases h
theorem drop_getD (l : List Mk) (i : Nat) (h : i < l.length) : l.drop i = l.getD i zM :: l.drop (i + 1) := by
  rw [List.drop_eq_getElem_cons h, getD_lt l zM i h]
theorem foldP_drop (n : Int) (p : Nat) (l : List Mk) (i : Nat) (h : i < l.length) : foldP n p (l.drop i) = (stepP n p (l.getD i zM)).bind fun q => foldP n q (l.drop (i + 1)) := by
  rw [drop_getD l i h]
  rfl
theorem impl_termOk_l (n : Int) (s : List Mk) (hn : 1 ≤ n ∧ n ≤ 4) (hs : s.length ≤ 15) : ∀ d i p : Nat, i + d = s.length → p ≤ i →
    Tells (fun k => impl_TermOk.l0 k n (p : Int) s (s.length : Int) (i : Int)) (foldP n p (s.drop i) = some 1) := by
  intro d
  induction d with
  | zero =>
    intro i p hi hp
    refine Tells.step (fun k => by rw [impl_TermOk.l0]) ?_
    refine Tells.neg (by omega) ?_
    rw [List.drop_eq_nil_of_le (by omega)]
    refine Tells.of (Ev.now _) ?_
    rw [beq_iff_eq]
    simp only [foldP, Option.some.injEq]
    omega
  | succ d ih =>
    intro i p hi hp
    refine Tells.step (fun k => by rw [impl_TermOk.l0]) ?_
    rw [foldP_drop n p s i (by omega), rdM, w64s (i := i) (by omega), w64s (i := p) (by omega), w64 (x := n + 1) (by omega) (by omega)]
    refine Tells.pos (by omega) ?_
    refine Tells.pos (by omega) ?_
    refine Tells.pos (by omega) ?_
    generalize s.getD i zM = m
    have go : ∀ q, q ≤ i + 1 → stepP n p m = some q → Tells (fun k => impl_TermOk.l0 k n (q : Int) s (s.length : Int) ((i + 1 : Nat) : Int)) ((stepP n p m).bind (fun q => foldP n q (s.drop (i + 1))) = some 1) := fun q hq e => by
      rw [e]
      exact ih (i + 1) q (by omega) hq
    have no : stepP n p m = none → Tells (fun _ => some false) ((stepP n p m).bind (fun q => foldP n q (s.drop (i + 1))) = some 1) := fun e => by
      rw [e]
      exact Tells.no (by simp)
    have bin : 3 ≤ m.f0 → m.f0 ≤ 5 → Tells (fun k => impl_TermOk.j2 k n (p : Int) s (s.length : Int) (i : Int) true m.f0 m.f1) ((stepP n p m).bind (fun q => foldP n q (s.drop (i + 1))) = some 1) := fun h3 h5 => by
      refine Tells.step (fun k => by rw [impl_TermOk.j2]) ?_
      rw [w64s (by omega)]
      refine Tells.pos rfl ?_
      refine Tells.ite (fun h => ?_) (fun h => no (by unfold stepP; rw [if_neg (by omega), if_neg (by omega), if_neg (by omega), if_pos ⟨h3, h5⟩, if_neg (by omega)]))
      refine Tells.ite (fun h' => no (by unfold stepP; rw [if_neg (by omega), if_neg (by omega), if_neg (by omega), if_pos ⟨h3, h5⟩, if_neg (by omega)])) (fun h' => ?_)
      rw [w64 (x := (p : Int) - 1) (by omega) (by omega), show (p : Int) - 1 = ((p - 1 : Nat) : Int) by omega]
      exact go (p - 1) (by omega) (by unfold stepP; rw [if_neg (by omega), if_neg (by omega), if_neg (by omega), if_pos ⟨h3, h5⟩, if_pos ⟨h, by omega⟩])
    refine Tells.ite (fun h0 => ?_) (fun h0 => ?_)
    · refine Tells.ite (fun h => no (by unfold stepP; rw [if_pos h0, if_neg (by omega)])) (fun h => ?_)
      refine Tells.ite (fun h' => no (by unfold stepP; rw [if_pos h0, if_neg (by omega)])) (fun h' => ?_)
      exact go (p + 1) (by omega) (by unfold stepP; rw [if_pos h0, if_pos (by omega)])
    refine Tells.ite (fun h1 => ?_) (fun h1 => ?_)
    · refine Tells.ite (fun h => no (by unfold stepP; rw [if_neg h0, if_pos h1, if_neg (by omega)])) (fun h => ?_)
      refine Tells.ite (fun h' => no (by unfold stepP; rw [if_neg h0, if_pos h1, if_neg (by omega)])) (fun h' => ?_)
      exact go (p + 1) (by omega) (by unfold stepP; rw [if_neg h0, if_pos h1, if_pos (by omega)])
    refine Tells.ite (fun h2 => ?_) (fun h2 => ?_)
    · refine Tells.ite (fun h => ?_) (fun h => no (by unfold stepP; rw [if_neg h0, if_neg h1, if_pos h2, if_neg (by omega)]))
      refine Tells.ite (fun h' => no (by unfold stepP; rw [if_neg h0, if_neg h1, if_pos h2, if_neg (by omega)])) (fun h' => ?_)
      exact go p (by omega) (by unfold stepP; rw [if_neg h0, if_neg h1, if_pos h2, if_pos (by omega)])
    refine Tells.ite (fun h3 => ?_) (fun h3 => ?_)
    · rw [show (m.f0 == 3) = true by simp [h3]]
      exact bin (by omega) (by omega)
    refine Tells.ite (fun h4 => ?_) (fun h4 => ?_)
    · rw [show (m.f0 == 4) = true by simp [h4]]
      exact bin (by omega) (by omega)
    by_cases h5 : m.f0 = 5
    · rw [show (m.f0 == 5) = true by simp [h5]]
      exact bin (by omega) (by omega)
    · rw [show (m.f0 == 5) = false by simp [h5]]
      refine Tells.step (fun k => by rw [impl_TermOk.j2]) ?_
      refine Tells.neg (by decide) ?_
      exact no (by unfold stepP; rw [if_neg h0, if_neg h1, if_neg h2, if_neg (by omega)])
theorem impl_termOk (n : Int) (s : List Mk) : Tells (fun k => impl_TermOk.f k n s) (TermP n s) := by
  unfold impl_TermOk.f
  refine Tells.bindc (peopleOkT n) ?_
  have no : ¬ TermP n s → Tells (fun k => impl_TermOk.j0 k n s true) (TermP n s) := fun h => by
    refine Tells.step (fun k => by rw [impl_TermOk.j0]) ?_
    exact Tells.pos rfl (Tells.no h)
  refine Tells.ite (fun h => ?_) (fun h => no fun h' => h (decide_eq_true h'.1))
  have hn := of_decide_eq_true h
  refine Tells.ite (fun h1 => no fun h' => ?_) (fun h1 => ?_)
  · have : s = [] := List.eq_nil_of_length_eq_zero (by omega)
    subst this
    simp [TermP, foldP] at h'
  by_cases h2 : (s.length : Int) > 15
  · rw [decide_eq_true h2]
    exact no fun h' => by have := h'.2.1; omega
  · rw [decide_eq_false h2]
    refine Tells.step (fun k => by rw [impl_TermOk.j0]) ?_
    refine Tells.neg (by decide) ?_
    refine (impl_termOk_l n s hn (by omega) s.length 0 0 (by omega) (by omega)).iff ?_
    rw [List.drop_zero]
    exact ⟨fun h => ⟨hn, by omega, h⟩, fun h => h.2.2⟩
end Go.Proofs.Ytbhmippoeimliaa.M

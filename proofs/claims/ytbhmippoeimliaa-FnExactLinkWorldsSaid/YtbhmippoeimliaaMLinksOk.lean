/- LinksOk of the program and of the reference tell whether these are links. -/
import Derived.Test.YtbhmippoeimliaaMList
import Derived.Test.YtbhmippoeimliaaPx2
import Derived.Test.YtbhmippoeimliaaPx10
import Derived.Test.YtbhmippoeimliaaPx2
set_option linter.unusedVariables false
set_option linter.unusedSimpArgs false
namespace Go.Proofs.Ytbhmippoeimliaa.M
open Go Go.RowKit Go.Proofs.YtbhmippoeimliaaW.PrintWords Go.Proofs.Ytbhmippoeimliaa.P
abbrev Lnk := S31
abbrev zL : Lnk := z31
theorem l1InL (a b c : Int) : spec_l1In.f a b c = some (decide (b ≤ a ∧ a ≤ c)) := by
  unfold spec_l1In.f
  by_cases h : a ≥ b
  · rw [if_pos h]
    simp [h]
  · rw [if_neg h]
    simp
    intro h'
    omega
theorem peopleOkL (n : Int) : impl_peopleOk.f n = some (decide (1 ≤ n ∧ n ≤ 4)) := by
  unfold impl_peopleOk.f
  by_cases h : n ≥ 1
  · rw [if_pos h]
    simp [h]
  · rw [if_neg h]
    simp
    intro h'
    omega
theorem rdLnk (s : List Lnk) (i : Nat) : rd_T31 s (i : Int) = s.getD i zL := by simp [rd_T31]
theorem from_succL {P : Nat → Prop} {n j : Nat} (h0 : P j) (h : ∀ j', j + 1 ≤ j' → j' < n → P j') : ∀ j', j ≤ j' → j' < n → P j' := fun j' h1 h2 => by
  rcases Nat.eq_or_lt_of_le h1 with e | e
  · exact e ▸ h0
  · exact h j' e h2
/-- A link of so many people. -/
def LinkIn (n : Int) (l : Lnk) : Prop := 0 ≤ l.f0 ∧ l.f0 < n ∧ 0 ≤ l.f1 ∧ l.f1 < n
def LinksP (n : Int) (s : List Lnk) : Prop := (∀ i, i < s.length → LinkIn n (s.getD i zL)) ∧ (1 ≤ n ∧ n ≤ 4) ∧ s.length ≤ 6
theorem impl_links_l (n : Int) (s : List Lnk) (hn : s.length < 4611686018427387904) : ∀ d i : Nat, i + d = s.length →
    Tells (fun k => impl_LinksOk.l0 k n s s (s.length : Int) (i : Int)) ((∀ i', i ≤ i' → i' < s.length → LinkIn n (s.getD i' zL)) ∧ (1 ≤ n ∧ n ≤ 4) ∧ s.length ≤ 6) := by
  intro d
  induction d with
  | zero =>
    intro i hi
    refine Tells.step (fun k => by rw [impl_LinksOk.l0]) ?_
    refine Tells.neg (by omega) ?_
    refine Tells.bindc (peopleOkL n) ?_
    refine Tells.ite (fun h => Tells.dec ?_) (fun h => Tells.no fun h' => h (decide_eq_true h'.2.1))
    have h := of_decide_eq_true h
    exact ⟨fun h' => ⟨fun i' h1 h2 => by omega, h, by omega⟩, fun h' => by omega⟩
  | succ d ih =>
    intro i hi
    refine Tells.step (fun k => by rw [impl_LinksOk.l0]) ?_
    rw [rdLnk, w64s (by omega)]
    refine Tells.pos (by omega) ?_
    refine Tells.pos (by omega) ?_
    refine Tells.pos (by omega) ?_
    have no : ¬ LinkIn n (s.getD i zL) → Tells (fun _ => some false) ((∀ i', i ≤ i' → i' < s.length → LinkIn n (s.getD i' zL)) ∧ (1 ≤ n ∧ n ≤ 4) ∧ s.length ≤ 6) := fun h => Tells.no fun h' => h (h'.1 i (Nat.le_refl _) (by omega))
    refine Tells.ite (fun h => no fun h' => by have := h'.1; omega) (fun h1 => ?_)
    refine Tells.ite (fun h => no fun h' => by have := h'.2.1; omega) (fun h2 => ?_)
    refine Tells.ite (fun h => no fun h' => by have := h'.2.2.1; omega) (fun h3 => ?_)
    refine Tells.ite (fun h => no fun h' => by have := h'.2.2.2; omega) (fun h4 => ?_)
    refine (ih (i + 1) (by omega)).iff ⟨fun h => ⟨from_succL ⟨by omega, by omega, by omega, by omega⟩ h.1, h.2⟩, fun h => ⟨fun i' a b => h.1 i' (by omega) b, h.2⟩⟩
theorem impl_links (n : Int) (s : List Lnk) (hn : s.length < 4611686018427387904) : Tells (fun k => impl_LinksOk.f k n s) (LinksP n s) :=
  Tells.iff (impl_links_l n s hn s.length 0 (by omega)) ⟨fun h => ⟨fun i hi => h.1 i (by omega) hi, h.2⟩, fun h => ⟨fun i _ hi => h.1 i hi, h.2⟩⟩
theorem spec_links_l (n : Int) (s : List Lnk) (hn : s.length < 4611686018427387904) : ∀ d i : Nat, i + d = s.length →
    Tells (fun k => spec_LinksOk.l0 k n s (i : Int)) ((∀ i', i ≤ i' → i' < s.length → LinkIn n (s.getD i' zL)) ∧ (1 ≤ n ∧ n ≤ 4) ∧ s.length ≤ 6) := by
  intro d
  induction d with
  | zero =>
    intro i hi
    refine Tells.step (fun k => by rw [spec_LinksOk.l0]) ?_
    refine Tells.neg (by omega) ?_
    refine Tells.bindc (l1InL _ _ _) ?_
    refine Tells.ite (fun h => Tells.dec ?_) (fun h => Tells.no fun h' => h (decide_eq_true h'.2.1))
    have h := of_decide_eq_true h
    exact ⟨fun h' => ⟨fun i' h1 h2 => by omega, h, by omega⟩, fun h' => by omega⟩
  | succ d ih =>
    intro i hi
    refine Tells.step (fun k => by rw [spec_LinksOk.l0]) ?_
    rw [rdLnk, w64s (by omega)]
    refine Tells.pos (by omega) ?_
    refine Tells.pos (by omega) ?_
    have no : ¬ LinkIn n (s.getD i zL) → Tells (fun _ => some false) ((∀ i', i ≤ i' → i' < s.length → LinkIn n (s.getD i' zL)) ∧ (1 ≤ n ∧ n ≤ 4) ∧ s.length ≤ 6) := fun h => Tells.no fun h' => h (h'.1 i (Nat.le_refl _) (by omega))
    refine Tells.ite (fun h => no fun h' => by have := h'.1; omega) (fun h1 => ?_)
    refine Tells.ite (fun h => no fun h' => by have := h'.2.1; omega) (fun h2 => ?_)
    refine Tells.ite (fun h => no fun h' => by have := h'.2.2.1; omega) (fun h3 => ?_)
    refine Tells.ite (fun h => no fun h' => by have := h'.2.2.2; omega) (fun h4 => ?_)
    refine (ih (i + 1) (by omega)).iff ⟨fun h => ⟨from_succL ⟨by omega, by omega, by omega, by omega⟩ h.1, h.2⟩, fun h => ⟨fun i' a b => h.1 i' (by omega) b, h.2⟩⟩
theorem spec_links (n : Int) (s : List Lnk) (hn : s.length < 4611686018427387904) : Tells (fun k => spec_LinksOk.f k n s) (LinksP n s) :=
  Tells.iff (spec_links_l n s hn s.length 0 (by omega)) ⟨fun h => ⟨fun i hi => h.1 i (by omega) hi, h.2⟩, fun h => ⟨fun i _ hi => h.1 i hi, h.2⟩⟩
open Classical in
noncomputable def linksB (n : Int) (s : List Lnk) : Bool := decide (LinksP n s)
theorem linksB_iff (n : Int) (s : List Lnk) : linksB n s = true ↔ LinksP n s := by simp [linksB]
theorem impl_linksE (n : Int) (s : List Lnk) (hn : s.length < 4611686018427387904) : Ev (fun k => impl_LinksOk.f k n s) (linksB n s) := (impl_links n s hn).ev (linksB_iff n s)
theorem spec_linksE (n : Int) (s : List Lnk) (hn : s.length < 4611686018427387904) : Ev (fun k => spec_LinksOk.f k n s) (linksB n s) := (spec_links n s hn).ev (linksB_iff n s)
end Go.Proofs.Ytbhmippoeimliaa.M

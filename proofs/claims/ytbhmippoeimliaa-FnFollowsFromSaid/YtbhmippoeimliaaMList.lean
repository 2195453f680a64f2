/- Lists by their entries. -/
import Derived.Test.YtbhmippoeimliaaMBase
set_option linter.unusedVariables false
set_option linter.unusedSimpArgs false
namespace Go.Proofs.Ytbhmippoeimliaa.M
open Go Go.RowKit Go.Proofs.YtbhmippoeimliaaW.PrintWords
theorem getD_lt {α : Type} (l : List α) (d : α) (j : Nat) (h : j < l.length) : l.getD j d = l[j] := by
  rw [List.getD_eq_getElem?_getD, List.getElem?_eq_getElem h]
  rfl
theorem ext_getD {α : Type} (d : α) (x l : List α) (hl : x.length = l.length) (h : ∀ j, j < l.length → x.getD j d = l.getD j d) : x = l := by
  refine List.ext_getElem hl fun j h1 h2 => ?_
  have := h j h2
  rwa [getD_lt _ _ _ h1, getD_lt _ _ _ h2] at this
theorem set_getD {α : Type} (d : α) (x : List α) (i : Nat) (v : α) (hi : i < x.length) (j : Nat) : (x.set i v).getD j d = if j = i then v else x.getD j d := by
  by_cases e : j = i
  · subst e
    rw [if_pos rfl, List.getD_eq_getElem?_getD, List.getElem?_set_self hi]
    rfl
  · rw [if_neg e, List.getD_eq_getElem?_getD, List.getElem?_set_ne (Ne.symm e), ← List.getD_eq_getElem?_getD]
theorem getD_mem {α : Type} (l : List α) (d : α) (j : Nat) (h : j < l.length) : l.getD j d ∈ l := by
  rw [getD_lt l d j h]
  exact List.getElem_mem h
theorem getD_all {α : Type} (l : List α) (d : α) (P : α → Prop) (hd : P d) (h : ∀ x ∈ l, P x) (j : Nat) : P (l.getD j d) := by
  by_cases hj : j < l.length
  · exact h _ (getD_mem l d j hj)
  · rw [List.getD_eq_getElem?_getD, List.getElem?_eq_none (by omega)]
    exact hd
def castL (l : List Nat) : List Int := l.map fun w : Nat => (w : Int)
theorem castL_len (l : List Nat) : (castL l).length = l.length := by simp [castL]
theorem castL_getD (l : List Nat) (i : Nat) : (castL l).getD i 0 = ((l.getD i 0 : Nat) : Int) := by
  unfold castL
  by_cases h : i < l.length
  · rw [getD_lt _ _ _ (by simpa using h), getD_lt _ _ _ h, List.getElem_map]
  · rw [List.getD_eq_getElem?_getD, List.getElem?_eq_none (by simpa using h), List.getD_eq_getElem?_getD, List.getElem?_eq_none (by omega)]
    rfl
end Go.Proofs.Ytbhmippoeimliaa.M

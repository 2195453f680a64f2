/- The table of a list of worlds. -/
import Derived.Test.YtnmkifpifmdplaaMKnown
import Derived.Test.YtnmkifpifmdplaaPx12
import Derived.Test.YtnmkifpifmdplaaPx6
set_option linter.unusedVariables false
set_option linter.unusedSimpArgs false
namespace Go.Proofs.Ytnmkifpifmdplaa.M
open Go Go.RowKit Go.Proofs.YtnmkifpifmdplaaW.PrintWords Go.Proofs.Ytnmkifpifmdplaa.P
theorem worldOk (n : Nat) (h1 : 1 ≤ n) (h4 : n ≤ 4) (w : Nat) (hw : w < pw n) : impl_WorldOk.f (n : Int) (w : Int) = some true := by
  unfold impl_WorldOk.f
  rw [peopleOk]
  simp only [Option.bind_some]
  rw [if_pos (decide_eq_true (by omega)), if_pos (by omega), if_pos (by omega), shl_nat n (by omega), decide_eq_true (by omega)]
theorem or_nat (a b : Nat) (ha : a < 4294967296) (hb : b < 4294967296) : Go.bits .or .i64 (a : Int) (b : Int) = ((a ||| b : Nat) : Int) :=
  (bits_nat .i64 63 (by decide) wraps_i64 a b (by omega) (by omega)).2
def tow (a : Nat) (l : List Nat) : Nat := l.foldl (fun x w => x ||| pw w) a
theorem bitN_test (m i : Nat) : bitN m i = 1 ↔ m.testBit i = true := by
  rw [Nat.testBit_eq_decide_div_mod_eq, decide_eq_true_eq]
  rfl
theorem tow_bit (l : List Nat) (i : Nat) : ∀ a, bitN (tow a l) i = 1 ↔ bitN a i = 1 ∨ i ∈ l := by
  induction l with
  | nil => intro a; simp [tow]
  | cons w l ih =>
    intro a
    have : tow a (w :: l) = tow (a ||| pw w) l := rfl
    rw [this, ih, bitN_test, Nat.testBit_or, Bool.or_eq_true, ← bitN_test, List.mem_cons]
    have e : (pw w).testBit i = true ↔ i = w := by
      unfold pw
      rw [Nat.testBit_two_pow]
      simp only [decide_eq_true_eq]
      exact ⟨fun h => h.symm, fun h => h.symm⟩
    rw [e]
    constructor
    · rintro ((h | h) | h)
      · exact .inl h
      · exact .inr (.inl h)
      · exact .inr (.inr h)
    · rintro (h | h | h)
      · exact .inl (.inl h)
      · exact .inl (.inr h)
      · exact .inr h
theorem tow_lt (N : Nat) (l : List Nat) (hl : ∀ w ∈ l, w < N) : ∀ a, a < pw N → tow a l < pw N := by
  induction l with
  | nil => exact fun a ha => ha
  | cons w l ih =>
    intro a ha
    refine ih (fun x hx => hl x (List.mem_cons_of_mem _ hx)) _ ?_
    exact Nat.or_lt_two_pow ha (Nat.pow_lt_pow_right (by decide) (hl w (by simp)))
theorem tow_l (n : Nat) (h1 : 1 ≤ n) (h4 : n ≤ 4) (l : List Nat) (hl : ∀ w ∈ l, w < pw n) (hlen : l.length ≤ 100) : ∀ d i (a : Nat), i + d = l.length → a < pw (pw n) →
    Ev (fun k => impl_TableOfWorlds.l0 k (n : Int) (a : Int) (castL l) (l.length : Int) (i : Int)) (tow a (l.drop i) : Nat) := by
  have hp := pw4 h4
  have hpp := ppw h4
  intro d
  induction d with
  | zero =>
    intro i a hi ha
    refine Ev.step (fun k => by rw [impl_TableOfWorlds.l0]) ?_
    refine ev_neg (by omega) (ev_ret ?_)
    rw [List.drop_eq_nil_of_le (by omega)]
    rfl
  | succ d ih =>
    intro i a hi ha
    have hw := hl _ (getD_mem l 0 i (by omega))
    have hpw : pw (l.getD i 0) < pw (pw n) := Nat.pow_lt_pow_right (by decide) hw
    refine Ev.step (fun k => by rw [impl_TableOfWorlds.l0]) ?_
    rw [rdN, castL_getD, castL_len, w64s (by omega), shl_nat _ (by omega), or_nat _ _ (by omega) (by omega)]
    refine ev_pos (by omega) ?_
    refine ev_pos (by omega) ?_
    refine ev_pos (by omega) ?_
    refine ev_bindc (worldOk n h1 h4 _ hw) ?_
    refine ev_pos rfl ?_
    refine ev_pos (by omega) ?_
    refine ev_eq (ih (i + 1) _ (by omega) (Nat.or_lt_two_pow ha hpw)) ?_
    rw [List.drop_eq_getElem_cons (show i < l.length by omega), ← getD_lt l 0 i (by omega)]
    rfl
theorem impl_towE (n : Nat) (h1 : 1 ≤ n) (h4 : n ≤ 4) (l : List Nat) (hl : ∀ w ∈ l, w < pw n) (hlen : l.length ≤ 100) : Ev (fun k => impl_TableOfWorlds.f k (n : Int) (castL l)) (tow 0 l : Nat) := by
  unfold impl_TableOfWorlds.f
  refine ev_bindc (peopleOk _) ?_
  refine ev_pos (decide_eq_true (by omega)) ?_
  rw [castL_len]
  exact tow_l n h1 h4 l hl hlen l.length 0 0 (by omega) (pw_pos _)
end Go.Proofs.Ytnmkifpifmdplaa.M

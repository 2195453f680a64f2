/- Tables of terms, claims and stories: the program's and the reference's. -/
import Derived.Test.YtbhmippoeimliaaMStoryS
import Derived.Test.YtbhmippoeimliaaPx9
import Derived.Test.YtbhmippoeimliaaPx8
import Derived.Test.YtbhmippoeimliaaPx13
import Derived.Test.YtbhmippoeimliaaPx13
set_option linter.unusedVariables false
set_option linter.unusedSimpArgs false
namespace Go.Proofs.Ytbhmippoeimliaa.M
open Go Go.RowKit Go.Proofs.YtbhmippoeimliaaW.PrintWords Go.Proofs.Ytbhmippoeimliaa.P
theorem tabS' (p : Nat → Bool) (j : Nat) (hj : j ≤ 16) (h : p j = true) : Go.bits .or .i64 (tabN p j : Int) (pw j : Int) = ((tabN p (j + 1) : Nat) : Int) := by
  rw [or_pw p j hj]
  simp [tabN, h]
theorem tabZ' (p : Nat → Bool) (j : Nat) (h : p j = false) : tabN p j = tabN p (j + 1) := by simp [tabN, h]
theorem shl_u64' (n : Nat) (hn : n ≤ 4) : shl .u64 1 (n : Int) = (pw n : Int) := by
  rcases (by omega : n = 0 ∨ n = 1 ∨ n = 2 ∨ n = 3 ∨ n = 4) with rfl | rfl | rfl | rfl | rfl <;> decide
theorem shl2' (n : Nat) (hn : n ≤ 4) : shl .i64 1 (shl .u64 1 (n : Int)) = (pw (pw n) : Int) := by
  have := pwm4 hn
  rw [shl_u64' n hn, shl_nat _ (by omega)]
theorem ppw' {n : Nat} (h : n ≤ 4) : pw (pw n) ≤ 65536 := pw16 (pwm4 h)
theorem and_nat' (a b : Nat) (ha : a < 4294967296) (hb : b < 4294967296) : Go.bits .and .i64 (a : Int) (b : Int) = ((a &&& b : Nat) : Int) :=
  (bits_nat .i64 63 (by decide) wraps_i64 a b (by omega) (by omega)).1
/-- The table of a claim, and of a story. -/
def tabC (n : Nat) (c : Cl) : Nat := tabN (mayB c.f0.toNat c.f1) (pw n)
def tabS (n : Nat) (s : List Cl) : Nat := s.foldl (fun t c => t &&& tabC n c) (pw (pw n) - 1)
theorem tabC_lt (n : Nat) (hn : n ≤ 4) (c : Cl) : tabC n c < 65536 := Nat.lt_of_lt_of_le (tabN_lt _ _) (ppw' hn)
theorem spec_l4Table_l (n : Nat) (hn : n ≤ 4) (who : Int) (l : List Mk) (h : ClaimP n who l) : ∀ d j, j + d = pw n →
    Ev (fun k => spec_l4Table.l0 k (n : Int) ((tabN (mayB who.toNat l) j : Nat) : Int) (j : Int) who l) ((tabN (mayB who.toNat l) (pw n) : Nat) : Int) := by
  have hp := pwm4 hn
  intro d
  induction d with
  | zero =>
    intro j hj
    refine Ev.step (fun k => by rw [spec_l4Table.l0]) ?_
    rw [shl_nat n (by omega)]
    refine ev_pos (by omega) ?_
    refine ev_neg (by omega) (ev_ret ?_)
    rw [show j = pw n by omega]
  | succ d ih =>
    intro j hj
    refine Ev.step (fun k => by rw [spec_l4Table.l0]) ?_
    rw [shl_nat n (by omega), shl_nat j (by omega), w64s (by omega)]
    refine ev_pos (by omega) ?_
    refine ev_pos (by omega) ?_
    refine ev_bind (spec_mayE h.2.2.1 who h.1 (by have := h.2.1; omega) j (by omega)) ?_
    by_cases hb : mayB who.toNat l j = true
    · refine ev_pos hb ?_
      refine ev_pos (by omega) ?_
      rw [tabS' _ j (by omega) hb]
      exact ih (j + 1) (by omega)
    · refine ev_neg hb ?_
      rw [tabZ' _ j (Bool.eq_false_iff.2 hb)]
      exact ih (j + 1) (by omega)
theorem spec_l4TableE (n : Nat) (c : Cl) (h : ClaimP n c.f0 c.f1) : Ev (fun k => spec_l4Table.f k (n : Int) c.f0 c.f1) ((tabC n c : Nat) : Int) :=
  spec_l4Table_l n (by have := h.2.2.1.1.2; omega) c.f0 c.f1 h (pw n) 0 (by omega)
theorem impl_claimTableE (n : Nat) (c : Cl) (h : ClaimP n c.f0 c.f1) : impl_ClaimTable.f (n : Int) c.f0 c.f1 = some ((tabC n c : Nat) : Int) := by
  unfold impl_ClaimTable.f
  rw [if_pos h]
  rfl
theorem drop_C (s : List Cl) (i : Nat) (h : i < s.length) : s.drop i = s.getD i zC :: s.drop (i + 1) := by
  rw [List.drop_eq_getElem_cons h, getD_lt s zC i h]
theorem impl_story_l (n : Nat) (hn : n ≤ 4) (s : List Cl) (h : ∀ i, i < s.length → ClaimP n (s.getD i zC).f0 (s.getD i zC).f1) (hs : s.length ≤ 6) : ∀ d i a : Nat, i + d = s.length → a < 65536 →
    Ev (fun k => impl_storyTable.l0 k (n : Int) (a : Int) s (s.length : Int) (i : Int)) (((s.drop i).foldl (fun t c => t &&& tabC n c) a : Nat) : Int) := by
  intro d
  induction d with
  | zero =>
    intro i a hi ha
    refine Ev.step (fun k => by rw [impl_storyTable.l0]) ?_
    refine ev_neg (by omega) (ev_ret ?_)
    rw [List.drop_eq_nil_of_le (by omega)]
    rfl
  | succ d ih =>
    intro i a hi ha
    refine Ev.step (fun k => by rw [impl_storyTable.l0]) ?_
    have hc := tabC_lt n hn (s.getD i zC)
    rw [rdC, w64s (i := i) (by omega), drop_C s i (by omega), List.foldl_cons]
    refine ev_pos (by omega) ?_
    refine ev_pos (by omega) ?_
    refine ev_pos (by omega) ?_
    refine ev_bindc (impl_claimTableE n _ (h i (by omega))) ?_
    rw [and_nat' _ _ (by omega) (by omega)]
    exact ih (i + 1) _ (by omega) (Nat.lt_of_le_of_lt Nat.and_le_left ha)
theorem impl_storyE (n : Nat) (s : List Cl) (h : StoryP n s) : Ev (fun k => impl_storyTable.f k (n : Int) s) ((tabS n s : Nat) : Int) := by
  have hn : n ≤ 4 := by have := h.2.1.2; omega
  have hp := ppw' hn
  have hpos := pw_pos (pw n)
  unfold impl_storyTable.f tabS
  rw [shl2' n hn, w64 (by omega) (by omega), show (pw (pw n) : Int) - 1 = ((pw (pw n) - 1 : Nat) : Int) by omega]
  refine ev_pos (by omega) ?_
  exact impl_story_l n hn s h.1 h.2.2 s.length 0 (pw (pw n) - 1) (by omega) (by omega)
theorem spec_story_l (n : Nat) (hn : n ≤ 4) (s : List Cl) (h : ∀ i, i < s.length → ClaimP n (s.getD i zC).f0 (s.getD i zC).f1) (hs : s.length ≤ 6) : ∀ d i a : Nat, i + d = s.length → a < 65536 →
    Ev (fun k => spec_l4Story.l0 k (n : Int) s (a : Int) (i : Int)) (((s.drop i).foldl (fun t c => t &&& tabC n c) a : Nat) : Int) := by
  intro d
  induction d with
  | zero =>
    intro i a hi ha
    refine Ev.step (fun k => by rw [spec_l4Story.l0]) ?_
    refine ev_neg (by omega) (ev_ret ?_)
    rw [List.drop_eq_nil_of_le (by omega)]
    rfl
  | succ d ih =>
    intro i a hi ha
    refine Ev.step (fun k => by rw [spec_l4Story.l0]) ?_
    have hc := tabC_lt n hn (s.getD i zC)
    rw [rdC, w64s (i := i) (by omega), drop_C s i (by omega), List.foldl_cons]
    refine ev_pos (by omega) ?_
    refine ev_pos (by omega) ?_
    refine ev_bind (spec_l4TableE n _ (h i (by omega))) ?_
    rw [and_nat' _ _ (by omega) (by omega)]
    exact ih (i + 1) _ (by omega) (Nat.lt_of_le_of_lt Nat.and_le_left ha)
theorem spec_storyE (n : Nat) (s : List Cl) (h : StoryP n s) : Ev (fun k => spec_l4Story.f k (n : Int) s) ((tabS n s : Nat) : Int) := by
  have hn : n ≤ 4 := by have := h.2.1.2; omega
  have hp := ppw' hn
  have hpos := pw_pos (pw n)
  unfold spec_l4Story.f tabS
  rw [shl2' n hn, w64 (by omega) (by omega), show (pw (pw n) : Int) - 1 = ((pw (pw n) - 1 : Nat) : Int) by omega]
  refine ev_pos (by omega) ?_
  exact spec_story_l n hn s h.1 h.2.2 s.length 0 (pw (pw n) - 1) (by omega) (by omega)
end Go.Proofs.Ytbhmippoeimliaa.M

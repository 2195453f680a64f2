/- Claims and stories: both ClaimOk, both StoryOk, and whether a claim may be made in a world. -/
import Derived.Test.YtbhmippoeimliaaMHolds
import Derived.Test.YtbhmippoeimliaaMTab
import Derived.Test.YtbhmippoeimliaaPx7
import Derived.Test.YtbhmippoeimliaaPx4
import Derived.Test.YtbhmippoeimliaaPx7
import Derived.Test.YtbhmippoeimliaaPx5
import Derived.Test.YtbhmippoeimliaaPx10
import Derived.Test.YtbhmippoeimliaaPx5
set_option linter.unusedVariables false
set_option linter.unusedSimpArgs false
namespace Go.Proofs.Ytbhmippoeimliaa.M
open Go Go.RowKit Go.Proofs.YtbhmippoeimliaaW.PrintWords Go.Proofs.Ytbhmippoeimliaa.P
abbrev Cl := S83
abbrev zC : Cl := z83
theorem rdC (s : List Cl) (i : Nat) : rd_T83 s (i : Int) = s.getD i zC := by simp [rd_T83]

/-! ### whether a row of marks holds in a world -/
def runL (w : Nat) : List Bool → List Mk → List Bool
  | st, [] => st
  | st, m :: l => runL w (if m.f0 = 0 then (bitN w m.f1.toNat == 1) :: st else if m.f0 = 1 then decide (m.f1 ≤ (heads w : Int)) :: st else if m.f0 = 2 then (!st.headD false) :: st.tail else op2 m.f0 (st.tail.headD false) (st.headD false) :: st.tail.tail) l
theorem runL_enc (n : Int) (w : Nat) (t : Tm) : ∀ (st : List Bool) (l : List Mk), t.Ok n → runL w st (t.enc ++ l) = runL w (t.val w :: st) l := by
  induction t with
  | leaf m =>
    intro st l h
    simp only [Tm.enc, List.singleton_append, runL, Tm.val]
    by_cases h0 : m.f0 = 0
    · rw [if_pos h0, if_pos h0]
    · rw [if_neg h0, if_neg h0, if_pos (by rcases h with h | h <;> omega)]
  | neg t ih =>
    intro st l h
    simp only [Tm.enc, List.append_assoc, List.singleton_append]
    rw [ih st _ h]
    simp [runL, Tm.val]
  | bin c a b iha ihb =>
    intro st l h
    obtain ⟨hc, ha, hb⟩ := h
    simp only [Tm.enc, List.append_assoc, List.singleton_append]
    rw [iha st _ ha, ihb _ _ hb]
    simp only [runL, Tm.val]
    rw [if_neg (by omega), if_neg (by omega), if_neg (by omega)]
    rfl
/-- A row of marks holds in a world. -/
def holdB (l : List Mk) (w : Nat) : Bool := (runL w [] l).headD false
theorem holdB_enc (n : Int) (w : Nat) (t : Tm) (h : t.Ok n) : holdB t.enc w = t.val w := by
  unfold holdB
  have := runL_enc n w t [] [] h
  rw [List.append_nil] at this
  rw [this]
  rfl
theorem impl_holdsT {n : Int} {l : List Mk} (h : TermP n l) (w : Nat) (hw : w < 16) : Ev (fun k => impl_holds.f k l (w : Int)) (holdB l w) := by
  obtain ⟨t, ht, rfl⟩ := h.tree
  rw [holdB_enc n w t ht]
  exact impl_holdsE n h.1.2 w hw t ht (by have := h.2.1; omega)
theorem spec_holdsT {n : Int} {l : List Mk} (h : TermP n l) (w : Nat) (hw : w < 16) : Ev (fun k => spec_l3Holds.f k l (w : Int)) (holdB l w) := by
  obtain ⟨t, ht, rfl⟩ := h.tree
  rw [holdB_enc n w t ht]
  exact spec_holdsE n h.1.2 w hw t ht (by have := h.2.1; omega)
/-- The person may say the row of marks in a world. -/
def mayB (who : Nat) (l : List Mk) (w : Nat) : Bool := (bitN w who == 1) == holdB l w
theorem impl_mayE {n : Int} {l : List Mk} (h : TermP n l) (who : Int) (h0 : 0 ≤ who) (h4 : who < 4) (w : Nat) (hw : w < 16) : Ev (fun k => impl_maySay.f k who l (w : Int)) (mayB who.toNat l w) := by
  unfold impl_maySay.f
  refine ev_bind (impl_holdsT h w hw) ?_
  refine ev_pos h0 (ev_ret ?_)
  rw [show who = ((who.toNat : Nat) : Int) by omega, shr_and1 w who.toNat (by omega) (by omega), beq_one]
  unfold mayB
  rw [Int.toNat_natCast, BEq.comm]
theorem spec_mayE {n : Int} {l : List Mk} (h : TermP n l) (who : Int) (h0 : 0 ≤ who) (h4 : who < 4) (w : Nat) (hw : w < 16) : Ev (fun k => spec_l4May.f k who l (w : Int)) (mayB who.toNat l w) := by
  unfold spec_l4May.f
  refine ev_pos h0 ?_
  refine ev_bind (spec_holdsT h w hw) (ev_ret ?_)
  rw [show who = ((who.toNat : Nat) : Int) by omega, shr_tmod2 w who.toNat (by omega), beq_one]
  unfold mayB
  rw [Int.toNat_natCast]

/-! ### claims and stories -/
def ClaimP (n who : Int) (l : List Mk) : Prop := 0 ≤ who ∧ who < n ∧ TermP n l ∧ l.length ≤ 13
instance (n who : Int) (l : List Mk) : Decidable (ClaimP n who l) := by unfold ClaimP; infer_instance
theorem impl_claimOk (n who : Int) (l : List Mk) : Tells (fun k => impl_ClaimOk.f k n who l) (ClaimP n who l) := by
  unfold impl_ClaimOk.f
  refine Tells.bindc (peopleOkT n) ?_
  refine Tells.ite (fun h => ?_) (fun h => Tells.no fun h' => h (decide_eq_true h'.2.2.1.1))
  refine Tells.ite (fun h0 => ?_) (fun h0 => Tells.no fun h' => h0 h'.1)
  refine Tells.ite (fun h1 => ?_) (fun h1 => Tells.no fun h' => h1 h'.2.1)
  obtain ⟨b, hb, hi⟩ := impl_termOk n l
  refine Tells.bind hb ?_
  refine Tells.ite (fun h2 => Tells.dec ?_) (fun h2 => Tells.no fun h' => h2 (hi.2 h'.2.2.1))
  exact ⟨fun h => ⟨h0, h1, hi.1 h2, by omega⟩, fun h => by have := h.2.2.2; omega⟩
theorem spec_claimOk (n : Int) (hn : n ≤ 9223372036854775807) (who : Int) (l : List Mk) (h64 : M64 l) (hl : l.length < 4611686018427387904) : Tells (fun k => spec_ClaimOk.f k n who l) (ClaimP n who l) := by
  unfold spec_ClaimOk.f
  refine Tells.ite (fun h0 => ?_) (fun h0 => Tells.no fun h' => h0 h'.1)
  refine Tells.ite (fun h1 => ?_) (fun h1 => Tells.no fun h' => h1 h'.2.1)
  obtain ⟨b, hb, hi⟩ := spec_termOk n hn l h64 hl
  refine Tells.bind hb ?_
  refine Tells.ite (fun h2 => Tells.dec ?_) (fun h2 => Tells.no fun h' => h2 (hi.2 h'.2.2.1))
  exact ⟨fun h => ⟨h0, h1, hi.1 h2, by omega⟩, fun h => by have := h.2.2.2; omega⟩
def StoryP (n : Int) (s : List Cl) : Prop := (∀ i, i < s.length → ClaimP n (s.getD i zC).f0 (s.getD i zC).f1) ∧ (1 ≤ n ∧ n ≤ 4) ∧ s.length ≤ 6
/-- Nothing in the story is beyond the machine's numbers. -/
def S64 (s : List Cl) : Prop := s.length < 4611686018427387904 ∧ ∀ i, M64 (s.getD i zC).f1 ∧ (s.getD i zC).f1.length < 4611686018427387904
theorem impl_storyOk_l (n : Int) (s : List Cl) (hs : s.length < 4611686018427387904) : ∀ d i : Nat, i + d = s.length →
    Tells (fun k => impl_StoryOk.l0 k n s s (s.length : Int) (i : Int)) ((∀ j, i ≤ j → j < s.length → ClaimP n (s.getD j zC).f0 (s.getD j zC).f1) ∧ (1 ≤ n ∧ n ≤ 4) ∧ s.length ≤ 6) := by
  intro d
  induction d with
  | zero =>
    intro i hi
    refine Tells.step (fun k => by rw [impl_StoryOk.l0]) ?_
    refine Tells.neg (by omega) ?_
    refine Tells.bindc (peopleOkT n) ?_
    refine Tells.ite (fun h => Tells.dec ?_) (fun h => Tells.no fun h' => h (decide_eq_true h'.2.1))
    have h := of_decide_eq_true h
    exact ⟨fun h' => ⟨fun j h1 h2 => by omega, h, by omega⟩, fun h' => by omega⟩
  | succ d ih =>
    intro i hi
    refine Tells.step (fun k => by rw [impl_StoryOk.l0]) ?_
    rw [rdC, w64s (i := i) (by omega)]
    refine Tells.pos (by omega) ?_
    refine Tells.pos (by omega) ?_
    refine Tells.pos (by omega) ?_
    obtain ⟨b, hb, hi'⟩ := impl_claimOk n (s.getD i zC).f0 (s.getD i zC).f1
    refine Tells.bind hb ?_
    refine Tells.ite (fun h => ?_) (fun h => Tells.no fun h' => h (hi'.2 (h'.1 i (Nat.le_refl _) (by omega))))
    refine (ih (i + 1) (by omega)).iff ?_
    constructor
    · intro h'
      refine ⟨fun j h1 h2 => ?_, h'.2⟩
      rcases Nat.eq_or_lt_of_le h1 with e | e
      · exact e ▸ hi'.1 h
      · exact h'.1 j e h2
    · exact fun h' => ⟨fun j h1 h2 => h'.1 j (by omega) h2, h'.2⟩
theorem impl_storyOk (n : Int) (s : List Cl) (hs : s.length < 4611686018427387904) : Tells (fun k => impl_StoryOk.f k n s) (StoryP n s) := by
  unfold impl_StoryOk.f
  refine (impl_storyOk_l n s hs s.length 0 (by omega)).iff ?_
  exact ⟨fun h => ⟨fun j hj => h.1 j (by omega) hj, h.2⟩, fun h => ⟨fun j _ hj => h.1 j hj, h.2⟩⟩
theorem spec_storyOk_l (n : Int) (hn : n ≤ 9223372036854775807) (s : List Cl) (hs : S64 s) : ∀ d i : Nat, i + d = s.length →
    Tells (fun k => spec_StoryOk.l0 k n s (i : Int)) ((∀ j, i ≤ j → j < s.length → ClaimP n (s.getD j zC).f0 (s.getD j zC).f1) ∧ (1 ≤ n ∧ n ≤ 4) ∧ s.length ≤ 6) := by
  intro d
  have hsl := hs.1
  induction d with
  | zero =>
    intro i hi
    refine Tells.step (fun k => by rw [spec_StoryOk.l0]) ?_
    refine Tells.neg (by omega) ?_
    refine Tells.bindc (l1InT n 1 4) ?_
    refine Tells.ite (fun h => Tells.dec ?_) (fun h => Tells.no fun h' => h (decide_eq_true h'.2.1))
    have h := of_decide_eq_true h
    exact ⟨fun h' => ⟨fun j h1 h2 => by omega, h, by omega⟩, fun h' => by omega⟩
  | succ d ih =>
    intro i hi
    refine Tells.step (fun k => by rw [spec_StoryOk.l0]) ?_
    rw [rdC, w64s (i := i) (by omega)]
    refine Tells.pos (by omega) ?_
    refine Tells.pos (by omega) ?_
    obtain ⟨b, hb, hi'⟩ := spec_claimOk n hn (s.getD i zC).f0 (s.getD i zC).f1 (hs.2 i).1 (hs.2 i).2
    refine Tells.bind hb ?_
    refine Tells.ite (fun h => ?_) (fun h => Tells.no fun h' => h (hi'.2 (h'.1 i (Nat.le_refl _) (by omega))))
    refine (ih (i + 1) (by omega)).iff ?_
    constructor
    · intro h'
      refine ⟨fun j h1 h2 => ?_, h'.2⟩
      rcases Nat.eq_or_lt_of_le h1 with e | e
      · exact e ▸ hi'.1 h
      · exact h'.1 j e h2
    · exact fun h' => ⟨fun j h1 h2 => h'.1 j (by omega) h2, h'.2⟩
theorem spec_storyOk (n : Int) (hn : n ≤ 9223372036854775807) (s : List Cl) (hs : S64 s) : Tells (fun k => spec_StoryOk.f k n s) (StoryP n s) := by
  unfold spec_StoryOk.f
  refine (spec_storyOk_l n hn s hs s.length 0 (by omega)).iff ?_
  exact ⟨fun h => ⟨fun j hj => h.1 j (by omega) hj, h.2⟩, fun h => ⟨fun j _ hj => h.1 j hj, h.2⟩⟩
end Go.Proofs.Ytbhmippoeimliaa.M

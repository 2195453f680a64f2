/- Claims and stories: both ClaimOk, both StoryOk, and whether a claim may be made in a world. -/
import Derived.Test.YtbhmippoeimliaaMHolds
import Derived.Test.YtbhmippoeimliaaMTab
import Derived.Test.YtbhmippoeimliaaPx6
import Derived.Test.YtbhmippoeimliaaPx9
set_option linter.unusedVariables false
set_option linter.unusedSimpArgs false
namespace Go.Proofs.Ytbhmippoeimliaa.M
open Go Go.RowKit Go.Proofs.YtbhmippoeimliaaW.PrintWords Go.Proofs.Ytbhmippoeimliaa.P
abbrev Cl := S83
abbrev zC : Cl := z83
theorem rdC (s : List Cl) (i : Nat) : rd_T83 s (i : Int) = s.getD i zC := by simp [rd_T83]

/-! ### whether a row of marks holds in a world -/
def runL (w : Nat) : List Bool → List Mk → List Bool
  | st, [] => st
  | st, m :: l => runL w (if m.f0 = 0 then (bitN w m.f1.toNat == 1) :: st else if m.f0 = 1 then decide (m.f1 ≤ (heads w : Int)) :: st else if m.f0 = 2 then (!st.headD false) :: st.tail else op2 m.f0 (st.tail.headD false) (st.headD false) :: st.tail.tail) l
theorem runL_enc (n : Int) (w : Nat) (t : Tm) : ∀ (st : List Bool) (l : List Mk), t.Ok n → runL w st (t.enc ++ l) = runL w (t.val w :: st) l := by
  induction t with
  | leaf m =>
    intro st l h
    simp only [Tm.enc, List.singleton_append, runL, Tm.val]
    by_cases h0 : m.f0 = 0
    · rw [if_pos h0, if_pos h0]
    · rw [if_neg h0, if_neg h0, if_pos (by rcases h with h | h <;> omega)]
  | neg t ih =>
    intro st l h
    simp only [Tm.enc, List.append_assoc, List.singleton_append]
    rw [ih st _ h]
    simp [runL, Tm.val]
  | bin c a b iha ihb =>
    intro st l h
    obtain ⟨hc, ha, hb⟩ := h
    simp only [Tm.enc, List.append_assoc, List.singleton_append]
    rw [iha st _ ha, ihb _ _ hb]
    simp only [runL, Tm.val]
    rw [if_neg (by omega), if_neg (by omega), if_neg (by omega)]
    rfl
/-- A row of marks holds in a world. -/
def holdB (l : List Mk) (w : Nat) : Bool := (runL w [] l).headD false
theorem holdB_enc (n : Int) (w : Nat) (t : Tm) (h : t.Ok n) : holdB t.enc w = t.val w := by
  unfold holdB
  have := runL_enc n w t [] [] h
  rw [List.append_nil] at this
  rw [this]
  rfl
theorem impl_holdsT {n : Int} {l : List Mk} (h : TermP n l) (w : Nat) (hw : w < 16) : Ev (fun k => impl_holds.f k l (w : Int)) (holdB l w) := by
  obtain ⟨t, ht, rfl⟩ := h.tree
  rw [holdB_enc n w t ht]
  exact impl_holdsE n h.1.2 w hw t ht (by have := h.2.1; omega)
/-- The person may say the row of marks in a world. -/
def mayB (who : Nat) (l : List Mk) (w : Nat) : Bool := (bitN w who == 1) == holdB l w
theorem impl_mayE {n : Int} {l : List Mk} (h : TermP n l) (who : Int) (h0 : 0 ≤ who) (h4 : who < 4) (w : Nat) (hw : w < 16) : Ev (fun k => impl_maySay.f k who l (w : Int)) (mayB who.toNat l w) := by
  unfold impl_maySay.f
  refine ev_bind (impl_holdsT h w hw) ?_
  refine ev_pos h0 (ev_ret ?_)
  rw [show who = ((who.toNat : Nat) : Int) by omega, shr_and1 w who.toNat (by omega) (by omega), beq_one]
  unfold mayB
  rw [Int.toNat_natCast, BEq.comm]
/-! ### claims and stories -/
def ClaimP (n who : Int) (l : List Mk) : Prop := 0 ≤ who ∧ who < n ∧ TermP n l ∧ l.length ≤ 13
instance (n who : Int) (l : List Mk) : Decidable (ClaimP n who l) := by unfold ClaimP; infer_instance
theorem impl_claimOk (n who : Int) (l : List Mk) : Tells (fun k => impl_ClaimOk.f k n who l) (ClaimP n who l) := by
  unfold impl_ClaimOk.f
  refine Tells.bindc (peopleOkT n) ?_
  refine Tells.ite (fun h => ?_) (fun h => Tells.no fun h' => h (decide_eq_true h'.2.2.1.1))
  refine Tells.ite (fun h0 => ?_) (fun h0 => Tells.no fun h' => h0 h'.1)
  refine Tells.ite (fun h1 => ?_) (fun h1 => Tells.no fun h' => h1 h'.2.1)
  obtain ⟨b, hb, hi⟩ := impl_termOk n l
  refine Tells.bind hb ?_
  refine Tells.ite (fun h2 => Tells.dec ?_) (fun h2 => Tells.no fun h' => h2 (hi.2 h'.2.2.1))
  exact ⟨fun h => ⟨h0, h1, hi.1 h2, by omega⟩, fun h => by have := h.2.2.2; omega⟩
def StoryP (n : Int) (s : List Cl) : Prop := (∀ i, i < s.length → ClaimP n (s.getD i zC).f0 (s.getD i zC).f1) ∧ (1 ≤ n ∧ n ≤ 4) ∧ s.length ≤ 6
end Go.Proofs.Ytbhmippoeimliaa.M

/- The reference's ClaimOk, StoryOk and l4May. -/
import Derived.Test.YtbhmippoeimliaaMStory
import Derived.Test.YtbhmippoeimliaaMTermS
import Derived.Test.YtbhmippoeimliaaMHoldsS
import Derived.Test.YtbhmippoeimliaaPx11
import Derived.Test.YtbhmippoeimliaaPx13
set_option linter.unusedVariables false
set_option linter.unusedSimpArgs false
namespace Go.Proofs.Ytbhmippoeimliaa.M
open Go Go.RowKit Go.Proofs.YtbhmippoeimliaaW.PrintWords Go.Proofs.Ytbhmippoeimliaa.P
theorem spec_holdsT {n : Int} {l : List Mk} (h : TermP n l) (w : Nat) (hw : w < 16) : Ev (fun k => spec_l3Holds.f k l (w : Int)) (holdB l w) := by
  obtain ⟨t, ht, rfl⟩ := h.tree
  rw [holdB_enc n w t ht]
  exact spec_holdsE n h.1.2 w hw t ht (by have := h.2.1; omega)
theorem spec_mayE {n : Int} {l : List Mk} (h : TermP n l) (who : Int) (h0 : 0 ≤ who) (h4 : who < 4) (w : Nat) (hw : w < 16) : Ev (fun k => spec_l4May.f k who l (w : Int)) (mayB who.toNat l w) := by
  unfold spec_l4May.f
  refine ev_pos h0 ?_
  refine ev_bind (spec_holdsT h w hw) (ev_ret ?_)
  rw [show who = ((who.toNat : Nat) : Int) by omega, shr_tmod2 w who.toNat (by omega), beq_one]
  unfold mayB
  rw [Int.toNat_natCast]

theorem spec_claimOk (n : Int) (hn : n ≤ 9223372036854775807) (who : Int) (l : List Mk) (h64 : M64 l) (hl : l.length < 4611686018427387904) : Tells (fun k => spec_ClaimOk.f k n who l) (ClaimP n who l) := by
  unfold spec_ClaimOk.f
  refine Tells.ite (fun h0 => ?_) (fun h0 => Tells.no fun h' => h0 h'.1)
  refine Tells.ite (fun h1 => ?_) (fun h1 => Tells.no fun h' => h1 h'.2.1)
  obtain ⟨b, hb, hi⟩ := spec_termOk n hn l h64 hl
  refine Tells.bind hb ?_
  refine Tells.ite (fun h2 => Tells.dec ?_) (fun h2 => Tells.no fun h' => h2 (hi.2 h'.2.2.1))
  exact ⟨fun h => ⟨h0, h1, hi.1 h2, by omega⟩, fun h => by have := h.2.2.2; omega⟩
/-- Nothing in the story is beyond the machine's numbers. -/
def S64 (s : List Cl) : Prop := s.length < 4611686018427387904 ∧ ∀ i, M64 (s.getD i zC).f1 ∧ (s.getD i zC).f1.length < 4611686018427387904
end Go.Proofs.Ytbhmippoeimliaa.M

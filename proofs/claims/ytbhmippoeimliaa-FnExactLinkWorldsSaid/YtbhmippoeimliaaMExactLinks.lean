/- The exact laws' helpers over links: they measure, turn and compare. -/
import Derived.Test.YtbhmippoeimliaaMLinksOk
import Derived.Test.YtbhmippoeimliaaPx9
import Derived.Test.YtbhmippoeimliaaPx9
import Derived.Test.YtbhmippoeimliaaPx9
import Derived.Test.YtbhmippoeimliaaPx9
import Derived.Test.YtbhmippoeimliaaPx9
set_option linter.unusedVariables false
set_option linter.unusedSimpArgs false
namespace Go.Proofs.Ytbhmippoeimliaa.M
open Go Go.RowKit Go.Proofs.YtbhmippoeimliaaW.PrintWords Go.Proofs.Ytbhmippoeimliaa.P
abbrev LLnk := S94
abbrev zLL : LLnk := z94
theorem rdLLnk (s : List LLnk) (i : Nat) : rd_T94 s (i : Int) = s.getD i zLL := by simp [rd_T94]
def toL (l : LLnk) : Lnk := ⟨l.f0, l.f1, l.f2⟩
theorem sz_links (l : List LLnk) (hl : l.length ≤ maxLen) : ∃ r, laws_szLinkS.f l 1048576 = some r ∧ (0 ≤ r → l.length ≤ 1048576) := by
  unfold maxLen at hl
  unfold laws_szLinkS.f
  rw [w64 (by omega) (by omega)]
  by_cases h : 1048576 - (l.length : Int) < 0
  · exact ⟨-1, if_pos h, fun h => absurd h (by decide)⟩
  · exact ⟨_, if_neg h, fun _ => by omega⟩
theorem to_link (a b : Int) (c : Bool) : laws_toLink.f a b c = some (a, b, c) := rfl
theorem to_links_l (l : List LLnk) (hn : l.length ≤ 1048576) : ∀ d i (x : List Lnk), i + d = l.length → x.length = l.length → (∀ j, j < i → x.getD j zL = toL (l.getD j zLL)) → Ev (fun k => laws_toLinkS.l0 k l x (i : Int)) (l.map toL) := by
  intro d
  induction d with
  | zero =>
    intro i x hi hx h
    refine Ev.step (fun k => by rw [laws_toLinkS.l0]) ?_
    refine ev_neg (by omega) (ev_ret (ext_getD zL x (l.map toL) (by simpa using hx) fun j hj => ?_))
    rw [List.length_map] at hj
    rw [h j (by omega), getD_lt _ _ _ hj, getD_lt _ _ _ (by simpa using hj), List.getElem_map]
  | succ d ih =>
    intro i x hi hx h
    refine Ev.step (fun k => by rw [laws_toLinkS.l0]) ?_
    rw [w64s (by omega), rdLLnk, Int.toNat_natCast]
    refine ev_pos (by omega) ?_
    refine ev_pos (by omega) ?_
    refine ev_bindc (to_link _ _ _) ?_
    refine ev_pos (by omega) ?_
    refine ih (i + 1) _ (by omega) (by simpa using hx) fun j hj => ?_
    rw [set_getD zL x i _ (by omega)]
    split
    · rename_i e
      rw [e]
      rfl
    · exact h j (by omega)
theorem to_links (l : List LLnk) (hn : l.length ≤ 1048576) : Ev (fun k => laws_toLinkS.f k l) (l.map toL) := by
  unfold laws_toLinkS.f
  rw [Int.toNat_natCast]
  refine ev_pos (by omega) ?_
  refine ev_pos (by omega) ?_
  exact to_links_l l hn l.length 0 _ (by omega) (by simp) fun j hj => by omega
theorem eq_link (l : Lnk) : laws_eqLink.f l.f0 l.f1 l.f2 l.f0 l.f1 l.f2 = some true := by
  unfold laws_eqLink.f
  simp
theorem eq_links_l (l : List Lnk) (hn : l.length ≤ 1048576) : ∀ d i, i + d = l.length → Ev (fun k => laws_eqLinkS.l0 k l l (i : Int)) true := by
  intro d
  induction d with
  | zero =>
    intro i hi
    refine Ev.step (fun k => by rw [laws_eqLinkS.l0]) ?_
    exact ev_neg (by omega) (ev_ret rfl)
  | succ d ih =>
    intro i hi
    refine Ev.step (fun k => by rw [laws_eqLinkS.l0]) ?_
    rw [w64s (by omega)]
    refine ev_pos (by omega) ?_
    refine ev_pos (by omega) ?_
    refine ev_pos (by omega) ?_
    refine ev_bindc (eq_link _) ?_
    exact ev_pos rfl (ih (i + 1) (by omega))
theorem eq_links (l : List Lnk) (hn : l.length ≤ 1048576) : Ev (fun k => laws_eqLinkS.f k l l) true := by
  unfold laws_eqLinkS.f
  exact ev_pos rfl (eq_links_l l hn l.length 0 (by omega))
end Go.Proofs.Ytbhmippoeimliaa.M

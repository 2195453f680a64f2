/- The exact laws' helpers over claims: they measure, turn and compare. -/
import Derived.Test.YtbhmippoeimliaaMStory
import Derived.Test.YtbhmippoeimliaaPx3
import Derived.Test.YtbhmippoeimliaaPx3
import Derived.Test.YtbhmippoeimliaaPx3
import Derived.Test.YtbhmippoeimliaaPx6
import Derived.Test.YtbhmippoeimliaaPx6
import Derived.Test.YtbhmippoeimliaaPx6
import Derived.Test.YtbhmippoeimliaaPx6
import Derived.Test.YtbhmippoeimliaaPx2
import Derived.Test.YtbhmippoeimliaaPx2
import Derived.Test.YtbhmippoeimliaaPx2
import Derived.Test.YtbhmippoeimliaaPx2
set_option linter.unusedVariables false
set_option linter.unusedSimpArgs false
namespace Go.Proofs.Ytbhmippoeimliaa.M
open Go Go.RowKit Go.Proofs.YtbhmippoeimliaaW.PrintWords Go.Proofs.Ytbhmippoeimliaa.P
abbrev LMk := S107
abbrev zLM : LMk := z107
abbrev LCl := S103
abbrev zLC : LCl := z103
theorem rdLM (s : List LMk) (i : Nat) : rd_T107 s (i : Int) = s.getD i zLM := by simp [rd_T107]
theorem rdLC (s : List LCl) (i : Nat) : rd_T103 s (i : Int) = s.getD i zLC := by simp [rd_T103]
def toM (l : LMk) : Mk := ⟨l.f0, l.f1⟩
def toMs (l : List LMk) : List Mk := l.map toM
def toC (l : LCl) : Cl := ⟨l.f0, toMs l.f1⟩
def toCs (l : List LCl) : List Cl := l.map toC
theorem toMs_len (l : List LMk) : (toMs l).length = l.length := by simp [toMs]
theorem toCs_len (l : List LCl) : (toCs l).length = l.length := by simp [toCs]
theorem toCs_getD (l : List LCl) (i : Nat) (h : i < l.length) : (toCs l).getD i zC = toC (l.getD i zLC) := by
  unfold toCs
  rw [getD_lt _ _ _ (by simpa using h), getD_lt _ _ _ h, List.getElem_map]

/-! ### they measure -/
theorem sz_marks (l : List LMk) (a : Int) (hl : l.length ≤ maxLen) (h0 : 0 ≤ a) (h1 : a ≤ 1048576) : ∃ r, laws_szMarkS.f l a = some r ∧ r ≤ a ∧ (0 ≤ r → (l.length : Int) ≤ a) := by
  unfold maxLen at hl
  unfold laws_szMarkS.f
  rw [w64 (by omega) (by omega)]
  by_cases h : a - (l.length : Int) < 0
  · exact ⟨-1, if_pos h, by omega, fun h => absurd h (by decide)⟩
  · exact ⟨_, if_neg h, by omega, fun _ => by omega⟩
theorem sz_claim (who : Int) (l : List LMk) (a : Int) (hl : l.length ≤ maxLen) (h0 : 0 ≤ a) (h1 : a ≤ 1048576) : ∃ r, laws_szClaim.f who l a = some r ∧ r ≤ a ∧ (0 ≤ r → (l.length : Int) ≤ a) := by
  obtain ⟨r, e, hr, hl'⟩ := sz_marks l a hl h0 h1
  unfold laws_szClaim.f
  rw [e, Option.bind_some]
  by_cases h : r < 0
  · exact ⟨-1, if_pos h, by omega, fun h => absurd h (by decide)⟩
  · exact ⟨r, if_neg h, hr, hl'⟩
theorem sz_claims_l (s : List LCl) (hs : s.length ≤ 1048576) (hw : ∀ c ∈ s, c.f1.length ≤ maxLen) : ∀ d i (a : Int), i + d = s.length → 0 ≤ a → a ≤ 1048576 →
    ∃ r, Ev (fun k => laws_szClaimS.l0 k s a (i : Int)) r ∧ r ≤ a ∧ (0 ≤ r → ∀ j, i ≤ j → j < s.length → (s.getD j zLC).f1.length ≤ 1048576) := by
  intro d
  induction d with
  | zero =>
    intro i a hi h0 h1
    refine ⟨a, Ev.step (fun k => by rw [laws_szClaimS.l0]) ?_, Int.le_refl _, fun _ j h1 h2 => by omega⟩
    exact ev_neg (by omega) (ev_ret rfl)
  | succ d ih =>
    intro i a hi h0 h1
    obtain ⟨r, e, hr, hl⟩ := sz_claim (s.getD i zLC).f0 (s.getD i zLC).f1 a (hw _ (getD_mem s zLC i (by omega))) h0 h1
    have E := fun (r' : Int) (h : Ev (fun k => if r < 0 then some (-1) else laws_szClaimS.l0 k s r ((i + 1 : Nat) : Int)) r') => Ev.step (g := fun k => laws_szClaimS.l0 k s a (i : Int)) (r := r') (fun k => by rw [laws_szClaimS.l0]) (by
      rw [rdLC, w64s (i := i) (by omega)]
      refine ev_pos (by omega) ?_
      refine ev_pos (by omega) ?_
      exact ev_bindc e h)
    by_cases h : r < 0
    · exact ⟨-1, E _ (ev_pos h (ev_ret rfl)), by omega, fun h => absurd h (by decide)⟩
    · obtain ⟨r', e', hle, h'⟩ := ih (i + 1) r (by omega) (by omega) (by omega)
      refine ⟨r', E _ (ev_neg h e'), by omega, fun h0 j h1 h2 => ?_⟩
      rcases Nat.eq_or_lt_of_le h1 with e | e
      · subst e
        have := hl (by omega)
        omega
      · exact h' h0 j e h2
/-- A story that the laws don't leave out. -/
def Small (s : List LCl) : Prop := s.length ≤ 1048576 ∧ ∀ j, j < s.length → (s.getD j zLC).f1.length ≤ 1048576
theorem sz_claims2 (s : List LCl) (hs : s.length ≤ maxLen) (hw : ∀ c ∈ s, c.f1.length ≤ maxLen) : ∃ r, Ev (fun k => laws_szClaimS.f k s 1048576) r ∧ r ≤ 1048576 ∧ (0 ≤ r → Small s) := by
  unfold maxLen at hs
  unfold laws_szClaimS.f
  rw [w64 (by omega) (by omega)]
  by_cases h : 1048576 - (s.length : Int) < 0
  · exact ⟨-1, ev_pos h (ev_ret rfl), by omega, fun h => absurd h (by decide)⟩
  · obtain ⟨r, e, hle, h'⟩ := sz_claims_l s (by omega) hw s.length 0 (1048576 - (s.length : Int)) (by omega) (by omega) (by omega)
    exact ⟨r, ev_neg h e, by omega, fun h0 => ⟨by omega, fun j hj => h' h0 j (by omega) hj⟩⟩
theorem sz_claims (s : List LCl) (hs : s.length ≤ maxLen) (hw : ∀ c ∈ s, c.f1.length ≤ maxLen) : ∃ r, Ev (fun k => laws_szClaimS.f k s 1048576) r ∧ (0 ≤ r → Small s) := by
  obtain ⟨r, e, _, h⟩ := sz_claims2 s hs hw
  exact ⟨r, e, h⟩

/-! ### they turn -/
theorem to_marks_l (l : List LMk) (hn : l.length ≤ 1048576) : ∀ d i (x : List Mk), i + d = l.length → x.length = l.length → (∀ j, j < i → x.getD j zM = toM (l.getD j zLM)) → Ev (fun k => laws_toMarkS.l0 k l x (i : Int)) (toMs l) := by
  intro d
  induction d with
  | zero =>
    intro i x hi hx h
    refine Ev.step (fun k => by rw [laws_toMarkS.l0]) ?_
    refine ev_neg (by omega) (ev_ret (ext_getD zM x (toMs l) (by rw [toMs_len]; exact hx) fun j hj => ?_))
    rw [toMs_len] at hj
    rw [h j (by omega)]
    unfold toMs
    rw [getD_lt _ _ _ hj, getD_lt _ _ _ (by simpa using hj), List.getElem_map]
  | succ d ih =>
    intro i x hi hx h
    refine Ev.step (fun k => by rw [laws_toMarkS.l0]) ?_
    rw [w64s (by omega), rdLM, Int.toNat_natCast]
    refine ev_pos (by omega) ?_
    refine ev_pos (by omega) ?_
    refine ev_bindc (a := ((l.getD i zLM).f0, (l.getD i zLM).f1)) rfl ?_
    refine ev_pos (by omega) ?_
    refine ih (i + 1) _ (by omega) (by simpa using hx) fun j hj => ?_
    rw [set_getD zM x i _ (by omega)]
    split
    · rename_i e
      rw [e]
      rfl
    · exact h j (by omega)
theorem to_marks (l : List LMk) (hn : l.length ≤ 1048576) : Ev (fun k => laws_toMarkS.f k l) (toMs l) := by
  unfold laws_toMarkS.f
  rw [Int.toNat_natCast]
  refine ev_pos (by omega) ?_
  refine ev_pos (by omega) ?_
  exact to_marks_l l hn l.length 0 _ (by omega) (by simp) fun j hj => by omega
theorem to_claims_l (l : List LCl) (hn : Small l) : ∀ d i (x : List Cl), i + d = l.length → x.length = l.length → (∀ j, j < i → x.getD j zC = toC (l.getD j zLC)) → Ev (fun k => laws_toClaimS.l0 k l x (i : Int)) (toCs l) := by
  intro d
  have hl := hn.1
  induction d with
  | zero =>
    intro i x hi hx h
    refine Ev.step (fun k => by rw [laws_toClaimS.l0]) ?_
    refine ev_neg (by omega) (ev_ret (ext_getD zC x (toCs l) (by rw [toCs_len]; exact hx) fun j hj => ?_))
    rw [toCs_len] at hj
    rw [h j (by omega), toCs_getD l j hj]
  | succ d ih =>
    intro i x hi hx h
    refine Ev.step (fun k => by rw [laws_toClaimS.l0]) ?_
    rw [w64s (by omega), rdLC, Int.toNat_natCast]
    refine ev_pos (by omega) ?_
    refine ev_pos (by omega) ?_
    refine ev_bind (a := ((l.getD i zLC).f0, toMs (l.getD i zLC).f1)) ?_ ?_
    · unfold laws_toClaim.f
      exact ev_bind (to_marks _ (hn.2 i (by omega))) (ev_ret rfl)
    refine ev_pos (by omega) ?_
    refine ih (i + 1) _ (by omega) (by simpa using hx) fun j hj => ?_
    rw [set_getD zC x i _ (by omega)]
    split
    · rename_i e
      rw [e]
      rfl
    · exact h j (by omega)
theorem to_claims (l : List LCl) (hn : Small l) : Ev (fun k => laws_toClaimS.f k l) (toCs l) := by
  have hl := hn.1
  unfold laws_toClaimS.f
  rw [Int.toNat_natCast]
  refine ev_pos (by omega) ?_
  refine ev_pos (by omega) ?_
  exact to_claims_l l hn l.length 0 _ (by omega) (by simp) fun j hj => by omega

/-! ### they compare -/
theorem eq_marks_l (l : List Mk) (hn : l.length < 4611686018427387904) : ∀ d i, i + d = l.length → Ev (fun k => laws_eqMarkS.l0 k l l (i : Int)) true := by
  intro d
  induction d with
  | zero =>
    intro i hi
    refine Ev.step (fun k => by rw [laws_eqMarkS.l0]) ?_
    exact ev_neg (by omega) (ev_ret rfl)
  | succ d ih =>
    intro i hi
    refine Ev.step (fun k => by rw [laws_eqMarkS.l0]) ?_
    rw [w64s (by omega)]
    refine ev_pos (by omega) ?_
    refine ev_pos (by omega) ?_
    refine ev_pos (by omega) ?_
    refine ev_bindc (a := true) (by unfold laws_eqMark.f; simp) ?_
    exact ev_pos rfl (ih (i + 1) (by omega))
theorem eq_marks (l : List Mk) (hn : l.length < 4611686018427387904) : Ev (fun k => laws_eqMarkS.f k l l) true := by
  unfold laws_eqMarkS.f
  exact ev_pos rfl (eq_marks_l l hn l.length 0 (by omega))
theorem eq_claims_l (l : List Cl) (hn : l.length < 4611686018427387904) (hm : ∀ j, (l.getD j zC).f1.length < 4611686018427387904) : ∀ d i, i + d = l.length → Ev (fun k => laws_eqClaimS.l0 k l l (i : Int)) true := by
  intro d
  induction d with
  | zero =>
    intro i hi
    refine Ev.step (fun k => by rw [laws_eqClaimS.l0]) ?_
    exact ev_neg (by omega) (ev_ret rfl)
  | succ d ih =>
    intro i hi
    refine Ev.step (fun k => by rw [laws_eqClaimS.l0]) ?_
    rw [w64s (by omega), rdC]
    refine ev_pos (by omega) ?_
    refine ev_pos (by omega) ?_
    refine ev_pos (by omega) ?_
    refine ev_bind (a := true) ?_ ?_
    · unfold laws_eqClaim.f
      refine ev_pos rfl ?_
      exact ev_bind (eq_marks _ (hm i)) (ev_pos rfl (ev_ret rfl))
    · exact ev_pos rfl (ih (i + 1) (by omega))
theorem eq_claims (l : List Cl) (hn : l.length < 4611686018427387904) (hm : ∀ j, (l.getD j zC).f1.length < 4611686018427387904) : Ev (fun k => laws_eqClaimS.f k l l) true := by
  unfold laws_eqClaimS.f
  exact ev_pos rfl (eq_claims_l l hn hm l.length 0 (by omega))
/-- What came in fits the machine. -/
def CWf (s : List LCl) : Prop := s.length ≤ maxLen ∧ ∀ y0 ∈ s, ((Lit.int .i64 y0.f0).wf = true) ∧ (y0.f1.length ≤ maxLen ∧ ∀ y1 ∈ y0.f1, ((Lit.int .i64 y1.f0).wf = true) ∧ ((Lit.int .i64 y1.f1).wf = true))
theorem wf_le {x : Int} (h : (Lit.int .i64 x).wf = true) : -9223372036854775808 ≤ x ∧ x ≤ 9223372036854775807 := by
  simp [Lit.wf, IntKind.min, IntKind.max, IntKind.bits, IntKind.signed] at h
  omega
theorem toMs64 (l : List LMk) (h : ∀ y1 ∈ l, ((Lit.int .i64 y1.f0).wf = true) ∧ ((Lit.int .i64 y1.f1).wf = true)) : M64 (toMs l) := by
  refine getD_all (toMs l) zM (fun m => m.f1 ≤ 9223372036854775807) (by decide) fun m hm => ?_
  obtain ⟨y, hy, rfl⟩ := List.mem_map.1 hm
  exact (wf_le (h y hy).2).2
theorem toCs64 (s : List LCl) (h : CWf s) (hs : Small s) : S64 (toCs s) := by
  have hl := hs.1
  refine ⟨by rw [toCs_len]; omega, getD_all (toCs s) zC (fun c => M64 c.f1 ∧ c.f1.length < 4611686018427387904) ⟨?_, by decide⟩ fun c hc => ?_⟩
  · intro i
    show (([] : List Mk).getD i zM).f1 ≤ 9223372036854775807
    rw [List.getD_nil]
    decide
  · obtain ⟨y, hy, rfl⟩ := List.mem_map.1 hc
    have h2 := (h.2 y hy).2
    refine ⟨toMs64 _ h2.2, ?_⟩
    show (toMs y.f1).length < _
    rw [toMs_len]
    obtain ⟨j, hj, e⟩ := List.getElem_of_mem hy
    have := hs.2 j hj
    rw [getD_lt _ _ _ hj, e] at this
    omega
end Go.Proofs.Ytbhmippoeimliaa.M

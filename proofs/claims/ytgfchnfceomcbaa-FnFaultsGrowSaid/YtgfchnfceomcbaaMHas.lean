/- The laws' helpers: a number sought in a list; bits counted. -/
import Derived.Test.YtgfchnfceomcbaaMBase
import Derived.Test.YtgfchnfceomcbaaPx18
import Derived.Test.YtgfchnfceomcbaaPx16
set_option linter.unusedVariables false
set_option linter.unusedSimpArgs false
namespace Go.Proofs.Ytgfchnfceomcbaa.M
open Go Go.RowKit Go.Proofs.YtgfchnfceomcbaaW.PrintWords Go.Proofs.Ytgfchnfceomcbaa.P

theorem has_int_l (xs : List Int) (x : Int) (hn : xs.length < 4611686018427387904) : ∀ d i, i + d = xs.length → Tells (fun k => laws_hasInt.l0 k xs x (i : Int)) (∃ j, i ≤ j ∧ j < xs.length ∧ xs.getD j 0 = x) := by
  intro d
  induction d with
  | zero =>
    intro i hi
    refine Tells.step (fun k => by rw [laws_hasInt.l0]) ?_
    refine Tells.neg (by omega) ?_
    exact Tells.no fun ⟨j, h1, h2, _⟩ => by omega
  | succ d ih =>
    intro i hi
    refine Tells.step (fun k => by rw [laws_hasInt.l0]) ?_
    rw [w64s (by omega), rdN]
    refine Tells.pos (by omega) ?_
    refine Tells.pos (by omega) ?_
    refine Tells.ite (fun e => Tells.yes ⟨i, Nat.le_refl _, by omega, e⟩) (fun e => ?_)
    refine Tells.iff (ih (i + 1) (by omega)) ⟨fun ⟨j, h1, h2, h3⟩ => ⟨j, by omega, h2, h3⟩, fun ⟨j, h1, h2, h3⟩ => ⟨j, ?_, h2, h3⟩⟩
    rcases Nat.eq_or_lt_of_le h1 with h | h
    · exact absurd (h ▸ h3) e
    · exact h
theorem has_int (xs : List Int) (x : Int) (hn : xs.length < 4611686018427387904) : Tells (fun k => laws_hasInt.f k xs x) (x ∈ xs) := by
  unfold laws_hasInt.f
  refine Tells.iff (has_int_l xs x hn xs.length 0 (by omega)) ⟨fun ⟨j, _, h2, h3⟩ => ?_, fun h => ?_⟩
  · rw [List.getD_eq_getElem?_getD, List.getElem?_eq_getElem h2] at h3
    exact h3 ▸ List.getElem_mem h2
  · obtain ⟨j, hj, e⟩ := List.getElem_of_mem h
    exact ⟨j, Nat.zero_le _, hj, by rw [List.getD_eq_getElem?_getD, List.getElem?_eq_getElem hj]; exact e⟩
theorem law_heads_l : ∀ n m acc : Nat, m < 2 ^ n → n ≤ 62 → acc + n ≤ 1000 → Ev (fun k => laws_heads.l0 k (m : Int) (acc : Int)) ((acc + popN n m : Nat) : Int) := by
  intro n
  induction n with
  | zero =>
    intro m acc hm _ _
    obtain rfl : m = 0 := by simpa using hm
    refine Ev.step (fun k => by rw [laws_heads.l0]) ?_
    exact ev_neg (by decide) (ev_ret rfl)
  | succ n ih =>
    intro m acc hm hn ha
    refine Ev.step (fun k => by rw [laws_heads.l0]) ?_
    by_cases h : m = 0
    · subst h
      exact ev_neg (by decide) (ev_ret (by rw [popN_zero]; rfl))
    · refine ev_pos (by omega) ?_
      have hb : m < 9223372036854775808 := Nat.lt_of_lt_of_le hm (Nat.pow_le_pow_right (n := 2) (j := 63) (by decide) (by omega))
      rw [tmod2, tdiv2, w64 (by omega) (by omega), w64 (by omega) (by omega)]
      have := ih (m / 2) (acc + m % 2) (by rw [Nat.pow_succ] at hm; omega) (by omega) (by omega)
      rw [popN, ← Nat.add_assoc]
      exact_mod_cast this
theorem law_headsE (n m : Nat) (hm : m < 2 ^ n) (hn : n ≤ 62) : Ev (fun k => laws_heads.f k (m : Int)) ((popN n m : Nat) : Int) := by
  have := law_heads_l n m 0 hm hn (by omega)
  rw [Nat.zero_add] at this
  exact this
end Go.Proofs.Ytgfchnfceomcbaa.M

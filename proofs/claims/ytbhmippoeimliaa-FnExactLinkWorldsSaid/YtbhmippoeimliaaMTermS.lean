/- The reference's TermOk tells whether a row is a term. -/
import Derived.Test.YtbhmippoeimliaaMTerm
import Derived.Test.YtbhmippoeimliaaPx11
import Derived.Test.YtbhmippoeimliaaPx9
set_option linter.unusedVariables false
set_option linter.unusedSimpArgs false
namespace Go.Proofs.Ytbhmippoeimliaa.M
open Go Go.RowKit Go.Proofs.YtbhmippoeimliaaW.PrintWords Go.Proofs.Ytbhmippoeimliaa.P
theorem l1InT (a b c : Int) : spec_l1In.f a b c = some (decide (b ≤ a ∧ a ≤ c)) := by
  unfold spec_l1In.f
  by_cases h : a ≥ b
  · rw [if_pos h]
    simp [h]
  · rw [if_neg h]
    simp
    intro h'
    omega
/-- No mark is beyond the machine's whole numbers. -/
def M64 (s : List Mk) : Prop := ∀ i : Nat, (s.getD i zM).f1 ≤ 9223372036854775807
theorem spec_termOk_l (n : Int) (hb : n ≤ 9223372036854775807) (s : List Mk) (h64 : M64 s) (hs : s.length < 4611686018427387904) : ∀ d i p : Nat, i + d = s.length → p ≤ i →
    Tells (fun k => spec_TermOk.l0 k n s (p : Int) (i : Int)) (foldP n p (s.drop i) = some 1 ∧ (1 ≤ n ∧ n ≤ 4) ∧ s.length ≤ 15) := by
  intro d
  induction d with
  | zero =>
    intro i p hi hp
    refine Tells.step (fun k => by rw [spec_TermOk.l0]) ?_
    refine Tells.neg (by omega) ?_
    rw [List.drop_eq_nil_of_le (by omega)]
    refine Tells.bindc (l1InT n 1 4) ?_
    simp only [foldP, Option.some.injEq]
    refine Tells.ite (fun h => ?_) (fun h => Tells.no fun h' => h (decide_eq_true h'.2.1))
    have hn := of_decide_eq_true h
    refine Tells.ite (fun h1 => Tells.dec ?_) (fun h1 => Tells.no fun h' => h1 (by omega))
    exact ⟨fun h => ⟨by omega, hn, by omega⟩, fun h => by omega⟩
  | succ d ih =>
    intro i p hi hp
    refine Tells.step (fun k => by rw [spec_TermOk.l0]) ?_
    rw [foldP_drop n p s i (by omega), rdM]
    refine Tells.pos (by omega) ?_
    refine Tells.pos (by omega) ?_
    have hm64 := h64 i
    generalize hm : s.getD i zM = m at hm64
    have go : ∀ q, q ≤ i + 1 → stepP n p m = some q → Tells (fun k => spec_TermOk.l0 k n s (q : Int) ((i + 1 : Nat) : Int)) ((stepP n p m).bind (fun q => foldP n q (s.drop (i + 1))) = some 1 ∧ (1 ≤ n ∧ n ≤ 4) ∧ s.length ≤ 15) := fun q hq e => by
      rw [e]
      exact ih (i + 1) q (by omega) hq
    have no : stepP n p m = none → Tells (fun _ => some false) ((stepP n p m).bind (fun q => foldP n q (s.drop (i + 1))) = some 1 ∧ (1 ≤ n ∧ n ≤ 4) ∧ s.length ≤ 15) := fun e => by
      rw [e]
      exact Tells.no (by simp)
    have j3 : m.f0 ≠ 0 → m.f0 ≠ 1 → ¬ (m.f0 = 2 ∧ m.f1 = 0 ∧ 1 ≤ p) → Tells (fun k => spec_TermOk.j3 k n s (p : Int) (i : Int) false) ((stepP n p m).bind (fun q => foldP n q (s.drop (i + 1))) = some 1 ∧ (1 ≤ n ∧ n ≤ 4) ∧ s.length ≤ 15) := fun h0 h1 h2 => by
      refine Tells.step (fun k => by rw [spec_TermOk.j3]) ?_
      rw [rdM, hm, w64s (by omega)]
      refine Tells.neg (by decide) ?_
      refine Tells.pos (by omega) ?_
      refine Tells.pos (by omega) ?_
      refine Tells.bindc (l1InT m.f0 3 5) ?_
      have bad : ¬ (3 ≤ m.f0 ∧ m.f0 ≤ 5 ∧ m.f1 = 0 ∧ 2 ≤ p) → stepP n p m = none := fun hb => by
        unfold stepP
        rw [if_neg h0, if_neg h1]
        by_cases h2' : m.f0 = 2
        · rw [if_pos h2', if_neg (fun h => h2 ⟨h2', h.1, h.2⟩)]
        · rw [if_neg h2']
          by_cases h3 : 3 ≤ m.f0 ∧ m.f0 ≤ 5
          · rw [if_pos h3, if_neg (fun h => hb ⟨h3.1, h3.2, h.1, h.2⟩)]
          · rw [if_neg h3]
      refine Tells.ite (fun h3 => ?_) (fun h3 => no (bad fun h => h3 (decide_eq_true ⟨h.1, h.2.1⟩)))
      have h3 := of_decide_eq_true h3
      refine Tells.ite (fun h4 => ?_) (fun h4 => no (bad fun h => h4 h.2.2.1))
      refine Tells.ite (fun h5 => ?_) (fun h5 => no (bad fun h => h5 (by omega)))
      rw [w64 (x := (p : Int) - 1) (by omega) (by omega), show (p : Int) - 1 = ((p - 1 : Nat) : Int) by omega]
      exact go (p - 1) (by omega) (by unfold stepP; rw [if_neg h0, if_neg h1, if_neg (by omega), if_pos h3, if_pos ⟨h4, by omega⟩])
    have j2 : m.f0 ≠ 0 → ¬ (m.f0 = 1 ∧ 0 ≤ m.f1 ∧ m.f1 ≤ n + 1) → Tells (fun k => spec_TermOk.j2 k n s (p : Int) (i : Int) false) ((stepP n p m).bind (fun q => foldP n q (s.drop (i + 1))) = some 1 ∧ (1 ≤ n ∧ n ≤ 4) ∧ s.length ≤ 15) := fun h0 h1 => by
      refine Tells.step (fun k => by rw [spec_TermOk.j2]) ?_
      rw [rdM, hm]
      refine Tells.neg (by decide) ?_
      refine Tells.pos (by omega) ?_
      refine Tells.pos (by omega) ?_
      by_cases h11 : m.f0 = 1
      · have e : stepP n p m = none := by
          unfold stepP
          rw [if_neg h0, if_pos h11, if_neg (fun h => h1 ⟨h11, h⟩)]
        refine Tells.neg (by simp [h11]) ?_
        refine Tells.step (fun k => by rw [spec_TermOk.j3]) ?_
        rw [rdM, hm]
        refine Tells.neg (by decide) ?_
        refine Tells.pos (by omega) ?_
        refine Tells.pos (by omega) ?_
        refine Tells.bindc (l1InT m.f0 3 5) ?_
        refine Tells.neg (fun h => by have := of_decide_eq_true h; omega) ?_
        exact no e
      refine Tells.ite (fun h2 => ?_) (fun h2 => j3 h0 h11 fun h => h2 (by simp [h.1, h.2.1]))
      have h2 : m.f0 = 2 ∧ m.f1 = 0 := by simpa using h2
      by_cases hp1 : (p : Int) ≥ 1
      · rw [decide_eq_true hp1]
        refine Tells.step (fun k => by rw [spec_TermOk.j3]) ?_
        rw [w64s (by omega)]
        refine Tells.pos rfl ?_
        exact go p (by omega) (by unfold stepP; rw [if_neg h0, if_neg h11, if_pos h2.1, if_pos ⟨h2.2, by omega⟩])
      · rw [decide_eq_false hp1]
        exact j3 h0 h11 fun h => hp1 (by omega)
    have j2t : m.f0 = 1 → 0 ≤ m.f1 → m.f1 ≤ n + 1 → Tells (fun k => spec_TermOk.j2 k n s (p : Int) (i : Int) true) ((stepP n p m).bind (fun q => foldP n q (s.drop (i + 1))) = some 1 ∧ (1 ≤ n ∧ n ≤ 4) ∧ s.length ≤ 15) := fun h0 h1 h2 => by
      refine Tells.step (fun k => by rw [spec_TermOk.j2]) ?_
      rw [w64s (by omega), w64s (by omega)]
      refine Tells.pos rfl ?_
      exact go (p + 1) (by omega) (by unfold stepP; rw [if_neg (by omega), if_pos h0, if_pos ⟨h1, h2⟩])
    have j1 : ¬ (m.f0 = 0 ∧ 0 ≤ m.f1 ∧ m.f1 < n) → Tells (fun k => spec_TermOk.j1 k n s (p : Int) (i : Int) false) ((stepP n p m).bind (fun q => foldP n q (s.drop (i + 1))) = some 1 ∧ (1 ≤ n ∧ n ≤ 4) ∧ s.length ≤ 15) := fun h0 => by
      refine Tells.step (fun k => by rw [spec_TermOk.j1]) ?_
      rw [rdM, hm]
      refine Tells.neg (by decide) ?_
      refine Tells.pos (by omega) ?_
      refine Tells.pos (by omega) ?_
      by_cases h00 : m.f0 = 0
      · have e : stepP n p m = none := by
          unfold stepP
          rw [if_pos h00, if_neg (fun h => h0 ⟨h00, h⟩)]
        refine Tells.neg (by omega) ?_
        refine Tells.step (fun k => by rw [spec_TermOk.j2]) ?_
        rw [rdM, hm]
        refine Tells.neg (by decide) ?_
        refine Tells.pos (by omega) ?_
        refine Tells.pos (by omega) ?_
        refine Tells.neg (by simp [h00]) ?_
        refine Tells.step (fun k => by rw [spec_TermOk.j3]) ?_
        rw [rdM, hm]
        refine Tells.neg (by decide) ?_
        refine Tells.pos (by omega) ?_
        refine Tells.pos (by omega) ?_
        refine Tells.bindc (l1InT m.f0 3 5) ?_
        refine Tells.neg (fun h => by have := of_decide_eq_true h; omega) ?_
        exact no e
      refine Tells.ite (fun h1 => ?_) (fun h1 => j2 h00 fun h => h1 h.1)
      refine Tells.ite (fun h2 => ?_) (fun h2 => j2 h00 fun h => h2 h.2.1)
      refine Tells.ite (fun h3 => j2t h1 h2 (by omega)) (fun h3 => ?_)
      by_cases h4 : wrap64 (m.f1 - 1) = n
      · rw [show (wrap64 (m.f1 - 1) == n) = true by simp [h4]]
        exact j2t h1 h2 (by rw [w64 (by omega) (by omega)] at h4; omega)
      · rw [show (wrap64 (m.f1 - 1) == n) = false by simp [h4]]
        exact j2 h00 fun h => h4 (by rw [w64 (by omega) (by omega)]; omega)
    refine Tells.ite (fun h0 => ?_) (fun h0 => j1 fun h => h0 h.1)
    refine Tells.ite (fun h1 => ?_) (fun h1 => j1 fun h => h1 h.2.1)
    by_cases h2 : m.f1 < n
    · rw [decide_eq_true h2]
      refine Tells.step (fun k => by rw [spec_TermOk.j1]) ?_
      rw [w64s (by omega), w64s (by omega)]
      refine Tells.pos rfl ?_
      exact go (p + 1) (by omega) (by unfold stepP; rw [if_pos h0, if_pos ⟨h1, h2⟩])
    · rw [decide_eq_false h2]
      exact j1 fun h => h2 h.2.2
theorem spec_termOk (n : Int) (hb : n ≤ 9223372036854775807) (s : List Mk) (h64 : M64 s) (hs : s.length < 4611686018427387904) : Tells (fun k => spec_TermOk.f k n s) (TermP n s) := by
  unfold spec_TermOk.f
  refine (spec_termOk_l n hb s h64 hs s.length 0 0 (by omega) (by omega)).iff ?_
  rw [List.drop_zero]
  exact ⟨fun h => ⟨h.2.1, h.2.2, h.1⟩, fun h => ⟨h.2.2, h.1, h.2.1⟩⟩
end Go.Proofs.Ytbhmippoeimliaa.M

/- The program's SyndromeOk and the reference's both tell whether a list of rows is a syndrome. -/
import Derived.Test.YtgfchnfceomcbaaMBase
import Derived.Test.YtgfchnfceomcbaaPx5
import Derived.Test.YtgfchnfceomcbaaPx6
import Derived.Test.YtgfchnfceomcbaaPx1
set_option linter.unusedVariables false
set_option linter.unusedSimpArgs false
namespace Go.Proofs.Ytgfchnfceomcbaa.M
open Go Go.RowKit Go.Proofs.YtgfchnfceomcbaaW.PrintWords Go.Proofs.Ytgfchnfceomcbaa.P

theorem l1In (a b c : Int) : spec_l1In.f a b c = some (decide (b ≤ a ∧ a ≤ c)) := by
  unfold spec_l1In.f
  by_cases h : a ≥ b
  · rw [if_pos h]
    simp [h]
  · rw [if_neg h]
    simp
    intro h'
    omega
theorem rdL (s : List (List Int)) (i : Nat) : rd_L2 s (i : Int) = s.getD i [] := by simp [rd_L2]
theorem from_succ {P : Nat → Prop} {n j : Nat} (h0 : P j) (h : ∀ j', j + 1 ≤ j' → j' < n → P j') : ∀ j', j ≤ j' → j' < n → P j' := fun j' h1 h2 => by
  rcases Nat.eq_or_lt_of_le h1 with e | e
  · exact e ▸ h0
  · exact h j' e h2

def ent (s : List (List Int)) (i j : Nat) : Int := (s.getD i []).getD j 0
def RowOk (s : List (List Int)) (i : Nat) : Prop := (s.getD i []).length = s.length ∧ ent s i i = 0 ∧ ∀ j, j < s.length → ent s i j = 0 ∨ ent s i j = 1
def Small (s : List (List Int)) : Prop := 1 ≤ s.length ∧ s.length ≤ 5
def Syn (s : List (List Int)) : Prop := Small s ∧ ∀ i, i < s.length → RowOk s i
theorem rdE (s : List (List Int)) (i j : Nat) : rd (rd_L2 s (i : Int)) (j : Int) = ent s i j := by rw [rdL, rdN]; rfl

theorem spec_syn_l (s : List (List Int)) (hn : s.length < 4611686018427387904) : ∀ d i : Nat, i + d = s.length →
    Tells (fun k => spec_SyndromeOk.l0 k s (i : Int)) (Small s ∧ ∀ i', i ≤ i' → i' < s.length → RowOk s i') := by
  intro d
  induction d with
  | zero =>
    intro i hi
    refine Tells.step (fun k => by rw [spec_SyndromeOk.l0]) ?_
    refine Tells.neg (by omega) ?_
    refine Tells.bindc (l1In _ _ _) ?_
    refine Tells.dec ?_
    unfold Small
    constructor
    · intro h
      exact ⟨by omega, fun i' h1 h2 => by omega⟩
    · intro h
      omega
  | succ d ih =>
    intro i hi
    have inner : ∀ e j : Nat, j + e = s.length → (s.getD i []).length = s.length →
        Tells (fun k => spec_SyndromeOk.l1 k s (i : Int) (j : Int)) ((∀ j', j ≤ j' → j' < s.length → (ent s i j' = 0 ∨ ent s i j' = 1) ∧ (j' = i → ent s i j' = 0)) ∧ Small s ∧ ∀ i', i + 1 ≤ i' → i' < s.length → RowOk s i') := by
      intro e
      induction e with
      | zero =>
        intro j hj hl
        refine Tells.step (fun k => by rw [spec_SyndromeOk.l1]) ?_
        refine Tells.neg (by omega) ?_
        rw [w64s (by omega)]
        exact (ih (i + 1) (by omega)).iff ⟨fun h => ⟨fun j' h1 h2 => by omega, h⟩, fun h => h.2⟩
      | succ e ihe =>
        intro j hj hl
        refine Tells.step (fun k => by rw [spec_SyndromeOk.l1]) ?_
        rw [rdE]
        refine Tells.pos (by omega) ?_
        refine Tells.pos (by omega) ?_
        refine Tells.pos (by omega) ?_
        refine Tells.pos (by omega) ?_
        refine Tells.pos (by rw [rdL]; omega) ?_
        refine Tells.bindc (l1In _ _ _) ?_
        refine Tells.ite (fun hb => ?_) (fun hb => Tells.no fun h => hb ?_)
        · have hb : 0 ≤ ent s i j ∧ ent s i j ≤ 1 := of_decide_eq_true hb
          have go : (j = i → ent s i j = 0) → Tells (fun k => spec_SyndromeOk.l1 k s (i : Int) (wrap64 ((j : Int) + 1))) ((∀ j', j ≤ j' → j' < s.length → (ent s i j' = 0 ∨ ent s i j' = 1) ∧ (j' = i → ent s i j' = 0)) ∧ Small s ∧ ∀ i', i + 1 ≤ i' → i' < s.length → RowOk s i') := fun hz => by
            rw [w64s (by omega)]
            exact (ihe (j + 1) (by omega) hl).iff ⟨fun h => ⟨from_succ ⟨by omega, hz⟩ h.1, h.2⟩, fun h => ⟨fun j' h1 h2 => h.1 j' (by omega) h2, h.2⟩⟩
          refine Tells.ite (fun e => ?_) (fun e => go fun e' => absurd (by omega) e)
          refine Tells.ite (fun z => go fun _ => z) (fun z => Tells.no fun h => z ((h.1 j (Nat.le_refl _) (by omega)).2 (by omega)))
        · have := (h.1 j (Nat.le_refl _) (by omega)).1
          exact decide_eq_true (by omega)
    refine Tells.step (fun k => by rw [spec_SyndromeOk.l0]) ?_
    refine Tells.pos (by omega) ?_
    refine Tells.pos (by omega) ?_
    rw [rdL]
    refine Tells.ite (fun hl => ?_) (fun hl => Tells.no fun h => hl (by have := (h.2 i (Nat.le_refl _) (by omega)).1; omega))
    have hl : (s.getD i []).length = s.length := by omega
    refine (inner s.length 0 (by omega) hl).iff ⟨fun h => ⟨h.2.1, from_succ ⟨hl, ((h.1 i (by omega) (by omega)).2 rfl), fun j hj => (h.1 j (by omega) hj).1⟩ h.2.2⟩, fun h => ⟨fun j' _ h2 => ?_, h.1, fun i' h1 h2 => h.2 i' (by omega) h2⟩⟩
    obtain ⟨_, h3, h4⟩ := h.2 i (Nat.le_refl _) (by omega)
    exact ⟨h4 j' h2, fun e => e ▸ h3⟩
theorem spec_syn (s : List (List Int)) (hn : s.length < 4611686018427387904) : Tells (fun k => spec_SyndromeOk.f k s) (Syn s) :=
  Tells.iff (spec_syn_l s hn s.length 0 (by omega)) ⟨fun h => ⟨h.1, fun i hi => h.2 i (by omega) hi⟩, fun h => ⟨h.1, fun i _ hi => h.2 i hi⟩⟩

theorem impl_syn_l (s : List (List Int)) (hn : s.length < 4611686018427387904) : ∀ d i : Nat, i + d = s.length →
    Tells (fun k => impl_SyndromeOk.l0 k s s (s.length : Int) (i : Int)) (Small s ∧ ∀ i', i ≤ i' → i' < s.length → RowOk s i') := by
  intro d
  induction d with
  | zero =>
    intro i hi
    refine Tells.step (fun k => by rw [impl_SyndromeOk.l0]) ?_
    refine Tells.neg (by omega) ?_
    have go : (Small s ∧ ∀ i', i ≤ i' → i' < s.length → RowOk s i') ↔ 1 ≤ s.length ∧ s.length ≤ 5 := ⟨fun h => h.1, fun h => ⟨h, fun i' h1 h2 => by omega⟩⟩
    refine Tells.ite (fun h => ?_) (fun h => Tells.no fun h' => h (by have := go.1 h'; omega))
    exact Tells.dec ⟨fun h' => go.2 (by omega), fun h' => by have := go.1 h'; omega⟩
  | succ d ih =>
    intro i hi
    have inner : ∀ e j : Nat, j + e = s.length → (s.getD i []).length = s.length →
        Tells (fun k => impl_SyndromeOk.l1 k s s (s.length : Int) (i : Int) (s.getD i []) ((s.getD i []).length : Int) (j : Int)) ((∀ j', j ≤ j' → j' < s.length → (ent s i j' = 0 ∨ ent s i j' = 1)) ∧ Small s ∧ ∀ i', i + 1 ≤ i' → i' < s.length → RowOk s i') := by
      intro e
      induction e with
      | zero =>
        intro j hj hl
        refine Tells.step (fun k => by rw [impl_SyndromeOk.l1]) ?_
        refine Tells.neg (by omega) ?_
        rw [w64s (by omega)]
        exact (ih (i + 1) (by omega)).iff ⟨fun h => ⟨fun j' h1 h2 => by omega, h⟩, fun h => h.2⟩
      | succ e ihe =>
        intro j hj hl
        refine Tells.step (fun k => by rw [impl_SyndromeOk.l1]) ?_
        rw [rdN, show (s.getD i []).getD j 0 = ent s i j from rfl]
        refine Tells.pos (by omega) ?_
        refine Tells.pos (by omega) ?_
        refine Tells.pos (by omega) ?_
        have go : (ent s i j = 0 ∨ ent s i j = 1) → Tells (fun k => impl_SyndromeOk.l1 k s s (s.length : Int) (i : Int) (s.getD i []) ((s.getD i []).length : Int) (wrap64 ((j : Int) + 1))) ((∀ j', j ≤ j' → j' < s.length → (ent s i j' = 0 ∨ ent s i j' = 1)) ∧ Small s ∧ ∀ i', i + 1 ≤ i' → i' < s.length → RowOk s i') := fun hz => by
          rw [w64s (by omega)]
          exact (ihe (j + 1) (by omega) hl).iff ⟨fun h => ⟨from_succ hz h.1, h.2⟩, fun h => ⟨fun j' h1 h2 => h.1 j' (by omega) h2, h.2⟩⟩
        refine Tells.ite (fun z => go (.inl z)) (fun z => ?_)
        refine Tells.ite (fun o => go (.inr o)) (fun o => Tells.no fun h => ?_)
        rcases h.1 j (Nat.le_refl _) (by omega) with h' | h'
        · exact z h'
        · exact o h'
    have hj1 : ∀ b : Bool, (b = true → ¬ RowOk s i) → (b = false → (s.getD i []).length = s.length ∧ ent s i i = 0) →
        Tells (fun k => impl_SyndromeOk.j1 k s (s.getD i []) s (s.length : Int) (i : Int) b) (Small s ∧ ∀ i', i ≤ i' → i' < s.length → RowOk s i') := by
      intro b hb1 hb0
      refine Tells.step (fun k => by rw [impl_SyndromeOk.j1]) ?_
      refine Tells.ite (fun h => Tells.no fun h' => hb1 h (h'.2 i (Nat.le_refl _) (by omega))) (fun h => ?_)
      obtain ⟨hl, h0⟩ := hb0 (by simpa using h)
      exact (inner s.length 0 (by omega) hl).iff ⟨fun h => ⟨h.2.1, from_succ ⟨hl, h0, fun j hj => h.1 j (by omega) hj⟩ h.2.2⟩, fun h => ⟨fun j' _ h2 => (h.2 i (Nat.le_refl _) (by omega)).2.2 j' h2, h.1, fun i' h1 h2 => h.2 i' (by omega) h2⟩⟩
    refine Tells.step (fun k => by rw [impl_SyndromeOk.l0]) ?_
    rw [rdE, rdL]
    refine Tells.pos (by omega) ?_
    refine Tells.pos (by omega) ?_
    refine Tells.pos (by omega) ?_
    refine Tells.ite (fun hl => ?_) (fun hl => hj1 true (fun _ h => hl (by have := h.1; omega)) (fun h => by cases h))
    refine Tells.pos (by omega) ?_
    refine hj1 _ (fun h h' => ?_) (fun h => ⟨by omega, ?_⟩)
    · simp [h'.2.1] at h
    · simpa using h
theorem impl_syn (s : List (List Int)) (hn : s.length < 4611686018427387904) : Tells (fun k => impl_SyndromeOk.f k s) (Syn s) :=
  Tells.iff (impl_syn_l s hn s.length 0 (by omega)) ⟨fun h => ⟨h.1, fun i hi => h.2 i (by omega) hi⟩, fun h => ⟨h.1, fun i _ hi => h.2 i hi⟩⟩

open Classical in
/-- Is it a syndrome? -/
noncomputable def synB (s : List (List Int)) : Bool := decide (Syn s)
theorem synB_iff (s : List (List Int)) : synB s = true ↔ Syn s := by simp [synB]
theorem spec_synE (s : List (List Int)) (hn : s.length < 4611686018427387904) : Ev (fun k => spec_SyndromeOk.f k s) (synB s) := (spec_syn s hn).ev (synB_iff s)
theorem impl_synE (s : List (List Int)) (hn : s.length < 4611686018427387904) : Ev (fun k => impl_SyndromeOk.f k s) (synB s) := (impl_syn s hn).ev (synB_iff s)
end Go.Proofs.Ytgfchnfceomcbaa.M

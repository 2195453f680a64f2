/- Kinds: both KindsOk, the world of kinds, whether a claim and a story may be made by kinds. -/
import Derived.Test.YtbhmippoeimliaaMStory
import Derived.Test.YtbhmippoeimliaaPx7
import Derived.Test.YtbhmippoeimliaaPx7
import Derived.Test.YtbhmippoeimliaaPx5
import Derived.Test.YtbhmippoeimliaaPx5
import Derived.Test.YtbhmippoeimliaaPx10
import Derived.Test.YtbhmippoeimliaaPx10
import Derived.Test.YtbhmippoeimliaaPx10
import Derived.Test.YtbhmippoeimliaaPx9
set_option linter.unusedVariables false
set_option linter.unusedSimpArgs false
namespace Go.Proofs.Ytbhmippoeimliaa.M
open Go Go.RowKit Go.Proofs.YtbhmippoeimliaaW.PrintWords Go.Proofs.Ytbhmippoeimliaa.P
def KindsP (ks : List Int) : Prop := (∀ i, i < ks.length → 0 ≤ ks.getD i 0 ∧ ks.getD i 0 ≤ 2) ∧ 1 ≤ ks.length ∧ ks.length ≤ 4
/-- The world of kinds. -/
def worldK (ks : List Int) : Nat := tabN (fun j => ks.getD j 0 == 1) ks.length
theorem worldK_lt (ks : List Int) (h : ks.length ≤ 4) : worldK ks < 16 := Nat.lt_of_lt_of_le (tabN_lt _ _) (pwm4 h)
def spyB (ks : List Int) (who : Int) (l : List Mk) : Bool := ks.getD who.toNat 0 == 2 || mayB who.toNat l (worldK ks)
def spiesP (ks : List Int) (s : List Cl) : Prop := KindsP ks ∧ StoryP ks.length s ∧ ∀ i, i < s.length → spyB ks (s.getD i zC).f0 (s.getD i zC).f1 = true
theorem from_next {P : Nat → Prop} {n i : Nat} (h0 : P i) : (∀ j, i + 1 ≤ j → j < n → P j) → ∀ j, i ≤ j → j < n → P j := fun h j h1 h2 => by
  rcases Nat.eq_or_lt_of_le h1 with e | e
  · exact e ▸ h0
  · exact h j e h2
theorem impl_kinds_l (ks : List Int) (hk : ks.length < 4611686018427387904) : ∀ d i : Nat, i + d = ks.length →
    Tells (fun k => impl_KindsOk.l0 k ks ks (ks.length : Int) (i : Int)) ((∀ j, i ≤ j → j < ks.length → 0 ≤ ks.getD j 0 ∧ ks.getD j 0 ≤ 2) ∧ 1 ≤ ks.length ∧ ks.length ≤ 4) := by
  intro d
  induction d with
  | zero =>
    intro i hi
    refine Tells.step (fun k => by rw [impl_KindsOk.l0]) ?_
    refine Tells.neg (by omega) ?_
    refine Tells.bindc (peopleOkT _) ?_
    exact Tells.dec ⟨fun h => ⟨fun j h1 h2 => by omega, by omega⟩, fun h => by omega⟩
  | succ d ih =>
    intro i hi
    refine Tells.step (fun k => by rw [impl_KindsOk.l0]) ?_
    rw [rdN, w64s (i := i) (by omega)]
    refine Tells.pos (by omega) ?_
    refine Tells.pos (by omega) ?_
    refine Tells.pos (by omega) ?_
    have go : 0 ≤ ks.getD i 0 ∧ ks.getD i 0 ≤ 2 → Tells (fun k => impl_KindsOk.l0 k ks ks (ks.length : Int) ((i + 1 : Nat) : Int)) ((∀ j, i ≤ j → j < ks.length → 0 ≤ ks.getD j 0 ∧ ks.getD j 0 ≤ 2) ∧ 1 ≤ ks.length ∧ ks.length ≤ 4) := fun h =>
      (ih (i + 1) (by omega)).iff ⟨fun h' => ⟨from_next h h'.1, h'.2⟩, fun h' => ⟨fun j h1 h2 => h'.1 j (by omega) h2, h'.2⟩⟩
    refine Tells.ite (fun h => go (by omega)) (fun h0 => ?_)
    refine Tells.ite (fun h => go (by omega)) (fun h1 => ?_)
    refine Tells.ite (fun h => go (by omega)) (fun h2 => ?_)
    exact Tells.no fun h' => by have := h'.1 i (Nat.le_refl _) (by omega); omega
theorem impl_kinds (ks : List Int) (hk : ks.length < 4611686018427387904) : Tells (fun k => impl_KindsOk.f k ks) (KindsP ks) := by
  unfold impl_KindsOk.f
  refine (impl_kinds_l ks hk ks.length 0 (by omega)).iff ?_
  exact ⟨fun h => ⟨fun j hj => h.1 j (by omega) hj, h.2⟩, fun h => ⟨fun j _ hj => h.1 j hj, h.2⟩⟩
theorem spec_kinds_l (ks : List Int) (hk : ks.length < 4611686018427387904) : ∀ d i : Nat, i + d = ks.length →
    Tells (fun k => spec_KindsOk.l0 k ks (i : Int)) ((∀ j, i ≤ j → j < ks.length → 0 ≤ ks.getD j 0 ∧ ks.getD j 0 ≤ 2) ∧ 1 ≤ ks.length ∧ ks.length ≤ 4) := by
  intro d
  induction d with
  | zero =>
    intro i hi
    refine Tells.step (fun k => by rw [spec_KindsOk.l0]) ?_
    refine Tells.neg (by omega) ?_
    refine Tells.bindc (l1InT _ _ _) ?_
    exact Tells.dec ⟨fun h => ⟨fun j h1 h2 => by omega, by omega⟩, fun h => by omega⟩
  | succ d ih =>
    intro i hi
    refine Tells.step (fun k => by rw [spec_KindsOk.l0]) ?_
    rw [rdN, w64s (i := i) (by omega)]
    refine Tells.pos (by omega) ?_
    refine Tells.pos (by omega) ?_
    refine Tells.bindc (l1InT _ _ _) ?_
    refine Tells.ite (fun h => ?_) (fun h => Tells.no fun h' => h (decide_eq_true (h'.1 i (Nat.le_refl _) (by omega))))
    have h := of_decide_eq_true h
    exact (ih (i + 1) (by omega)).iff ⟨fun h' => ⟨from_next h h'.1, h'.2⟩, fun h' => ⟨fun j h1 h2 => h'.1 j (by omega) h2, h'.2⟩⟩
theorem spec_kinds (ks : List Int) (hk : ks.length < 4611686018427387904) : Tells (fun k => spec_KindsOk.f k ks) (KindsP ks) := by
  unfold spec_KindsOk.f
  refine (spec_kinds_l ks hk ks.length 0 (by omega)).iff ?_
  exact ⟨fun h => ⟨fun j hj => h.1 j (by omega) hj, h.2⟩, fun h => ⟨fun j _ hj => h.1 j hj, h.2⟩⟩
theorem tabStep (p : Nat → Bool) (j : Nat) (hj : j ≤ 16) (h : p j = true) : Go.bits .or .i64 (tabN p j : Int) (pw j : Int) = ((tabN p (j + 1) : Nat) : Int) := by
  rw [or_pw p j hj]
  simp [tabN, h]
theorem tabStay (p : Nat → Bool) (j : Nat) (h : p j = false) : tabN p j = tabN p (j + 1) := by simp [tabN, h]
theorem impl_worldK_l (ks : List Int) (hk : ks.length ≤ 4) : ∀ d i : Nat, i + d = ks.length →
    Ev (fun k => impl_WorldOfKinds.l0 k ((tabN (fun j => ks.getD j 0 == 1) i : Nat) : Int) ks (ks.length : Int) (i : Int)) ((worldK ks : Nat) : Int) := by
  intro d
  induction d with
  | zero =>
    intro i hi
    refine Ev.step (fun k => by rw [impl_WorldOfKinds.l0]) ?_
    refine ev_neg (by omega) (ev_ret ?_)
    rw [show i = ks.length by omega]
    rfl
  | succ d ih =>
    intro i hi
    refine Ev.step (fun k => by rw [impl_WorldOfKinds.l0]) ?_
    rw [rdN, w64s (i := i) (by omega), shl_nat i (by omega)]
    refine ev_pos (by omega) ?_
    refine ev_pos (by omega) ?_
    refine ev_pos (by omega) ?_
    by_cases h : ks.getD i 0 = 1
    · refine ev_pos h ?_
      rw [tabStep (fun j => ks.getD j 0 == 1) i (by omega) (beq_iff_eq.2 h)]
      exact ih (i + 1) (by omega)
    · refine ev_neg h ?_
      rw [tabStay (fun j => ks.getD j 0 == 1) i (beq_eq_false_iff_ne.2 h)]
      exact ih (i + 1) (by omega)
theorem impl_worldKE (ks : List Int) (h : KindsP ks) : Ev (fun k => impl_WorldOfKinds.f k ks) ((worldK ks : Nat) : Int) := by
  have hl := h.2.2
  unfold impl_WorldOfKinds.f
  refine ev_bind ((impl_kinds ks (by omega)).ev (b := true) ⟨fun _ => h, fun _ => rfl⟩) ?_
  refine ev_pos rfl ?_
  exact impl_worldK_l ks hl ks.length 0 (by omega)
theorem spec_worldK_l (ks : List Int) (hk : ks.length ≤ 4) : ∀ d i : Nat, i + d = ks.length →
    Ev (fun k => spec_l9World.l0 k ks ((tabN (fun j => ks.getD j 0 == 1) i : Nat) : Int) (i : Int)) ((worldK ks : Nat) : Int) := by
  intro d
  induction d with
  | zero =>
    intro i hi
    refine Ev.step (fun k => by rw [spec_l9World.l0]) ?_
    refine ev_neg (by omega) (ev_ret ?_)
    rw [show i = ks.length by omega]
    rfl
  | succ d ih =>
    intro i hi
    refine Ev.step (fun k => by rw [spec_l9World.l0]) ?_
    rw [rdN, w64s (i := i) (by omega), shl_nat i (by omega)]
    refine ev_pos (by omega) ?_
    refine ev_pos (by omega) ?_
    by_cases h : ks.getD i 0 = 1
    · refine ev_pos h ?_
      rw [tabStep (fun j => ks.getD j 0 == 1) i (by omega) (beq_iff_eq.2 h)]
      exact ih (i + 1) (by omega)
    · refine ev_neg h ?_
      rw [tabStay (fun j => ks.getD j 0 == 1) i (beq_eq_false_iff_ne.2 h)]
      exact ih (i + 1) (by omega)
theorem spec_worldKE (ks : List Int) (h : KindsP ks) : Ev (fun k => spec_l9World.f k ks) ((worldK ks : Nat) : Int) :=
  spec_worldK_l ks h.2.2 ks.length 0 (by omega)
theorem impl_spySaysE (ks : List Int) (who : Int) (l : List Mk) (h : KindsP ks) (hc : ClaimP ks.length who l) : Ev (fun k => impl_SpySays.f k ks who l) (spyB ks who l) := by
  have hl := h.2.2
  unfold impl_SpySays.f
  refine ev_bind ((impl_kinds ks (by omega)).ev (b := true) ⟨fun _ => h, fun _ => rfl⟩) ?_
  refine ev_pos rfl ?_
  refine ev_bind ((impl_claimOk (ks.length : Int) who l).ev (b := true) ⟨fun _ => hc, fun _ => rfl⟩) ?_
  refine Ev.step (fun k => by rw [impl_SpySays.j0]) ?_
  obtain ⟨h0, h1, ht, _⟩ := hc
  refine ev_neg (by decide) ?_
  refine ev_pos h0 ?_
  refine ev_pos h1 ?_
  unfold spyB
  rw [show rd ks who = ks.getD who.toNat 0 from rfl]
  by_cases h2 : ks.getD who.toNat 0 = 2
  · refine ev_pos h2 (ev_ret ?_)
    rw [beq_iff_eq.2 h2, Bool.true_or]
  · refine ev_neg h2 ?_
    refine ev_bind (impl_worldKE ks h) ?_
    refine ev_bind (impl_mayE ht who h0 (by omega) _ (worldK_lt ks hl)) (ev_ret ?_)
    rw [beq_eq_false_iff_ne.2 h2, Bool.false_or]
theorem spec_spySaysE (ks : List Int) (who : Int) (l : List Mk) (h : KindsP ks) (h64 : M64 l) (hc : ClaimP ks.length who l) : Ev (fun k => spec_SpySays.f k ks who l) (spyB ks who l) := by
  have hl := h.2.2
  have hll := hc.2.2.2
  unfold spec_SpySays.f
  refine ev_bind ((spec_kinds ks (by omega)).ev (b := true) ⟨fun _ => h, fun _ => rfl⟩) ?_
  refine ev_pos rfl ?_
  refine ev_bind ((spec_claimOk (ks.length : Int) (by omega) who l h64 (by omega)).ev (b := true) ⟨fun _ => hc, fun _ => rfl⟩) ?_
  refine Ev.step (fun k => by rw [spec_SpySays.j0]) ?_
  obtain ⟨h0, h1, ht, _⟩ := hc
  refine ev_neg (by decide) ?_
  refine ev_pos h0 ?_
  refine ev_pos h1 ?_
  unfold spyB
  rw [show rd ks who = ks.getD who.toNat 0 from rfl]
  by_cases h2 : ks.getD who.toNat 0 = 2
  · refine ev_pos h2 (ev_ret ?_)
    rw [beq_iff_eq.2 h2, Bool.true_or]
  · refine ev_neg h2 ?_
    refine ev_bind (spec_worldKE ks h) ?_
    refine ev_bind (spec_mayE ht who h0 (by omega) _ (worldK_lt ks hl)) (ev_ret ?_)
    rw [beq_eq_false_iff_ne.2 h2, Bool.false_or]
theorem impl_spies_l (ks : List Int) (s : List Cl) (h : KindsP ks) (hs : StoryP ks.length s) : ∀ d i : Nat, i + d = s.length →
    Tells (fun k => impl_SpyStory.l0 k ks s (s.length : Int) (i : Int)) (∀ j, i ≤ j → j < s.length → spyB ks (s.getD j zC).f0 (s.getD j zC).f1 = true) := by
  intro d
  have hl := hs.2.2
  induction d with
  | zero =>
    intro i hi
    refine Tells.step (fun k => by rw [impl_SpyStory.l0]) ?_
    exact Tells.neg (by omega) (Tells.yes fun j h1 h2 => by omega)
  | succ d ih =>
    intro i hi
    refine Tells.step (fun k => by rw [impl_SpyStory.l0]) ?_
    rw [rdC, w64s (i := i) (by omega)]
    refine Tells.pos (by omega) ?_
    refine Tells.pos (by omega) ?_
    refine Tells.pos (by omega) ?_
    refine Tells.bind (impl_spySaysE ks _ _ h (hs.1 i (by omega))) ?_
    refine Tells.ite (fun h0 => ?_) (fun h0 => Tells.no fun h' => h0 (h' i (Nat.le_refl _) (by omega)))
    exact (ih (i + 1) (by omega)).iff ⟨fun h' => from_next (P := fun j => spyB ks (s.getD j zC).f0 (s.getD j zC).f1 = true) h0 h', fun h' j h1 h2 => h' j (by omega) h2⟩
theorem impl_spies (ks : List Int) (hk : ks.length < 4611686018427387904) (s : List Cl) (hs : s.length < 4611686018427387904) : Tells (fun k => impl_SpyStory.f k ks s) (spiesP ks s) := by
  unfold impl_SpyStory.f
  have no : ¬ spiesP ks s → Tells (fun k => impl_SpyStory.j0 k ks s true) (spiesP ks s) := fun h => by
    refine Tells.step (fun k => by rw [impl_SpyStory.j0]) ?_
    exact Tells.pos rfl (Tells.no h)
  obtain ⟨b, hb, hi⟩ := impl_kinds ks hk
  refine Tells.bind hb ?_
  refine Tells.ite (fun h => ?_) (fun h => no fun h' => h (hi.2 h'.1))
  obtain ⟨c, hc, hj⟩ := impl_storyOk (ks.length : Int) s hs
  refine Tells.bind hc ?_
  cases c with
  | false => exact no fun h' => by have := hj.2 h'.2.1; cases this
  | true =>
    refine Tells.step (fun k => by rw [impl_SpyStory.j0]) ?_
    refine Tells.neg (by decide) ?_
    refine (impl_spies_l ks s (hi.1 h) (hj.1 rfl) s.length 0 (by omega)).iff ?_
    exact ⟨fun h' => ⟨hi.1 h, hj.1 rfl, fun i hi => h' i (by omega) hi⟩, fun h' j _ hj => h'.2.2 j hj⟩
theorem spec_spies_l (ks : List Int) (s : List Cl) (h : KindsP ks) (h64 : S64 s) (hs : StoryP ks.length s) : ∀ d i : Nat, i + d = s.length →
    Tells (fun k => spec_SpyStory.l0 k ks s (i : Int)) (∀ j, i ≤ j → j < s.length → spyB ks (s.getD j zC).f0 (s.getD j zC).f1 = true) := by
  intro d
  have hl := hs.2.2
  induction d with
  | zero =>
    intro i hi
    refine Tells.step (fun k => by rw [spec_SpyStory.l0]) ?_
    exact Tells.neg (by omega) (Tells.yes fun j h1 h2 => by omega)
  | succ d ih =>
    intro i hi
    refine Tells.step (fun k => by rw [spec_SpyStory.l0]) ?_
    rw [rdC, w64s (i := i) (by omega)]
    refine Tells.pos (by omega) ?_
    refine Tells.pos (by omega) ?_
    refine Tells.bind (spec_spySaysE ks _ _ h (h64.2 i).1 (hs.1 i (by omega))) ?_
    refine Tells.ite (fun h0 => ?_) (fun h0 => Tells.no fun h' => h0 (h' i (Nat.le_refl _) (by omega)))
    exact (ih (i + 1) (by omega)).iff ⟨fun h' => from_next (P := fun j => spyB ks (s.getD j zC).f0 (s.getD j zC).f1 = true) h0 h', fun h' j h1 h2 => h' j (by omega) h2⟩
theorem spec_spies (ks : List Int) (hk : ks.length < 4611686018427387904) (s : List Cl) (hs : S64 s) : Tells (fun k => spec_SpyStory.f k ks s) (spiesP ks s) := by
  unfold spec_SpyStory.f
  have no : ¬ spiesP ks s → Tells (fun k => spec_SpyStory.j0 k ks s true) (spiesP ks s) := fun h => by
    refine Tells.step (fun k => by rw [spec_SpyStory.j0]) ?_
    exact Tells.pos rfl (Tells.no h)
  obtain ⟨b, hb, hi⟩ := spec_kinds ks hk
  refine Tells.bind hb ?_
  refine Tells.ite (fun h => ?_) (fun h => no fun h' => h (hi.2 h'.1))
  obtain ⟨c, hc, hj⟩ := spec_storyOk (ks.length : Int) (by omega) s hs
  refine Tells.bind hc ?_
  cases c with
  | false => exact no fun h' => by have := hj.2 h'.2.1; cases this
  | true =>
    refine Tells.step (fun k => by rw [spec_SpyStory.j0]) ?_
    refine Tells.neg (by decide) ?_
    refine (spec_spies_l ks s (hi.1 h) hs (hj.1 rfl) s.length 0 (by omega)).iff ?_
    exact ⟨fun h' => ⟨hi.1 h, hj.1 rfl, fun i hi => h' i (by omega) hi⟩, fun h' j _ hj => h'.2.2 j hj⟩
end Go.Proofs.Ytbhmippoeimliaa.M

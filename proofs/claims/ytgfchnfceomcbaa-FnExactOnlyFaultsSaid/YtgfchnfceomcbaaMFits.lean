/- FitsFaults of the program and of the reference tell whether a set of broken units fits a syndrome; the counts of bits. -/
import Derived.Test.YtgfchnfceomcbaaMSyn
import Derived.Test.YtgfchnfceomcbaaPx14
import Derived.Test.YtgfchnfceomcbaaPx14
import Derived.Test.YtgfchnfceomcbaaPx14
set_option linter.unusedVariables false
set_option linter.unusedSimpArgs false
namespace Go.Proofs.Ytgfchnfceomcbaa.M
open Go Go.RowKit Go.Proofs.YtgfchnfceomcbaaW.PrintWords Go.Proofs.Ytgfchnfceomcbaa.P

/-- What unit i says from unit j on fits the set m. -/
def FitRow (s : List (List Int)) (m i : Nat) : Prop := bitN m i = 0 → ∀ j, j < s.length → j ≠ i → ent s i j = (bitN m j : Int)
def Fits (s : List (List Int)) (m : Nat) : Prop := ∀ i, i < s.length → FitRow s m i

theorem impl_fits_l (s : List (List Int)) (hs : Syn s) (m : Nat) (hm : m < 9223372036854775808) : ∀ d i : Nat, i + d = s.length →
    Tells (fun k => impl_FitsFaults.l0 k (m : Int) s (s.length : Int) (i : Int)) (∀ i', i ≤ i' → i' < s.length → FitRow s m i') := by
  have h5 := hs.1.2
  intro d
  induction d with
  | zero =>
    intro i hi
    refine Tells.step (fun k => by rw [impl_FitsFaults.l0]) ?_
    refine Tells.neg (by omega) ?_
    exact Tells.yes fun i' h1 h2 => by omega
  | succ d ih =>
    intro i hi
    have hl := (hs.2 i (by omega)).1
    have inner : ∀ e j : Nat, j + e = s.length →
        Tells (fun k => impl_FitsFaults.l1 k (m : Int) (i : Int) s (s.length : Int) (i : Int) (s.getD i []) ((s.getD i []).length : Int) (j : Int)) ((∀ j', j ≤ j' → j' < s.length → bitN m i = 0 → j' ≠ i → ent s i j' = (bitN m j' : Int)) ∧ ∀ i', i + 1 ≤ i' → i' < s.length → FitRow s m i') := by
      intro e
      induction e with
      | zero =>
        intro j hj
        refine Tells.step (fun k => by rw [impl_FitsFaults.l1]) ?_
        refine Tells.neg (by omega) ?_
        rw [w64s (by omega)]
        exact (ih (i + 1) (by omega)).iff ⟨fun h => ⟨fun j' h1 h2 => by omega, h⟩, fun h => h.2⟩
      | succ e ihe =>
        intro j hj
        refine Tells.step (fun k => by rw [impl_FitsFaults.l1]) ?_
        rw [rdN, show (s.getD i []).getD j 0 = ent s i j from rfl, shr_and1 m i (by omega) hm, shr_and1 m j (by omega) hm]
        refine Tells.pos (by omega) ?_
        refine Tells.pos (by omega) ?_
        refine Tells.pos (by omega) ?_
        refine Tells.pos (by omega) ?_
        have go : (bitN m i = 0 → j ≠ i → ent s i j = (bitN m j : Int)) → Tells (fun k => impl_FitsFaults.l1 k (m : Int) (i : Int) s (s.length : Int) (i : Int) (s.getD i []) ((s.getD i []).length : Int) (wrap64 ((j : Int) + 1))) ((∀ j', j ≤ j' → j' < s.length → bitN m i = 0 → j' ≠ i → ent s i j' = (bitN m j' : Int)) ∧ ∀ i', i + 1 ≤ i' → i' < s.length → FitRow s m i') := fun hz => by
          rw [w64s (by omega)]
          exact (ihe (j + 1) (by omega)).iff ⟨fun h => ⟨from_succ hz h.1, h.2⟩, fun h => ⟨fun j' h1 h2 => h.1 j' (by omega) h2, h.2⟩⟩
        refine Tells.ite (fun z => ?_) (fun z => go fun z' => absurd (by omega) z)
        refine Tells.ite (fun e => go fun _ e' => absurd (by omega) e') (fun e => ?_)
        refine Tells.ite (fun o => go fun _ _ => o) (fun o => Tells.no fun h => o (h.1 j (Nat.le_refl _) (by omega) (by omega) (by omega)))
    refine Tells.step (fun k => by rw [impl_FitsFaults.l0]) ?_
    rw [rdL]
    refine Tells.pos (by omega) ?_
    refine Tells.pos (by omega) ?_
    refine Tells.pos (by omega) ?_
    exact (inner s.length 0 (by omega)).iff ⟨fun h => from_succ (fun z j hj hne => h.1 j (by omega) hj z hne) h.2, fun h => ⟨fun j' _ h2 z hne => h i (Nat.le_refl _) (by omega) z j' h2 hne, fun i' h1 h2 => h i' (by omega) h2⟩⟩

theorem spec_fits_l (s : List (List Int)) (hs : Syn s) (m : Nat) (hm : m < 9223372036854775808) : ∀ d i : Nat, i + d = s.length →
    Tells (fun k => spec_l10Fits.l0 k s (m : Int) (i : Int)) (∀ i', i ≤ i' → i' < s.length → FitRow s m i') := by
  have h5 := hs.1.2
  intro d
  induction d with
  | zero =>
    intro i hi
    refine Tells.step (fun k => by rw [spec_l10Fits.l0]) ?_
    refine Tells.neg (by omega) ?_
    exact Tells.yes fun i' h1 h2 => by omega
  | succ d ih =>
    intro i hi
    have hl := (hs.2 i (by omega)).1
    have inner : ∀ e j : Nat, j + e = s.length →
        Tells (fun k => spec_l10Fits.l1 k s (m : Int) (i : Int) (j : Int)) ((∀ j', j ≤ j' → j' < s.length → bitN m i = 0 → j' ≠ i → ent s i j' = (bitN m j' : Int)) ∧ ∀ i', i + 1 ≤ i' → i' < s.length → FitRow s m i') := by
      intro e
      induction e with
      | zero =>
        intro j hj
        refine Tells.step (fun k => by rw [spec_l10Fits.l1]) ?_
        refine Tells.neg (by omega) ?_
        refine Tells.step (fun k => by rw [spec_l10Fits.j2]) ?_
        refine Tells.neg (by decide) ?_
        rw [w64s (by omega)]
        exact (ih (i + 1) (by omega)).iff ⟨fun h => ⟨fun j' h1 h2 => by omega, h⟩, fun h => h.2⟩
      | succ e ihe =>
        intro j hj
        refine Tells.step (fun k => by rw [spec_l10Fits.l1]) ?_
        rw [shr_tmod2 m i (by omega)]
        refine Tells.pos (by omega) ?_
        refine Tells.pos (by omega) ?_
        refine Tells.step (fun k => by rw [spec_l10Fits.j2]) ?_
        rw [rdE, rdL, shr_tmod2 m j (by omega)]
        have go : (bitN m i = 0 → j ≠ i → ent s i j = (bitN m j : Int)) → Tells (fun k => spec_l10Fits.l1 k s (m : Int) (i : Int) (wrap64 ((j : Int) + 1))) ((∀ j', j ≤ j' → j' < s.length → bitN m i = 0 → j' ≠ i → ent s i j' = (bitN m j' : Int)) ∧ ∀ i', i + 1 ≤ i' → i' < s.length → FitRow s m i') := fun hz => by
          rw [w64s (by omega)]
          exact (ihe (j + 1) (by omega)).iff ⟨fun h => ⟨from_succ hz h.1, h.2⟩, fun h => ⟨fun j' h1 h2 => h.1 j' (by omega) h2, h.2⟩⟩
        refine Tells.ite (fun z => ?_) (fun z => ?_)
        · refine Tells.ite (fun e => go fun _ e' => absurd (by omega) e') (fun e => ?_)
          refine Tells.pos (by omega) ?_
          refine Tells.pos (by omega) ?_
          refine Tells.pos (by omega) ?_
          refine Tells.pos (by omega) ?_
          have z : bitN m i = 0 := by
            have := eq_of_beq z
            omega
          refine Tells.ite (fun o => go fun _ _ => o) (fun o => Tells.no fun h => o (h.1 j (Nat.le_refl _) (by omega) z (by omega)))
        · have z : ¬ bitN m i = 0 := fun z' => z (by rw [z']; rfl)
          rw [w64s (by omega)]
          exact (ih (i + 1) (by omega)).iff ⟨fun h => ⟨fun j' h1 h2 z' => absurd z' z, h⟩, fun h => h.2⟩
    refine Tells.step (fun k => by rw [spec_l10Fits.l0]) ?_
    refine Tells.pos (by omega) ?_
    exact (inner s.length 0 (by omega)).iff ⟨fun h => from_succ (fun z j hj hne => h.1 j (by omega) hj z hne) h.2, fun h => ⟨fun j' _ h2 z hne => h i (Nat.le_refl _) (by omega) z j' h2 hne, fun i' h1 h2 => h i' (by omega) h2⟩⟩
open Classical in
noncomputable def fitsB (s : List (List Int)) (m : Nat) : Bool := decide (Fits s m)
theorem fitsB_iff (s : List (List Int)) (m : Nat) : fitsB s m = true ↔ Fits s m := by simp [fitsB]
theorem spec_l10fitsE (s : List (List Int)) (hs : Syn s) (m : Nat) (hm : m < 9223372036854775808) : Ev (fun k => spec_l10Fits.f k s (m : Int)) (fitsB s m) :=
  Tells.ev (Tells.iff (spec_fits_l s hs m hm s.length 0 (by omega)) ⟨fun h i hi => h i (by omega) hi, fun h i _ hi => h i hi⟩) (fitsB_iff s m)
open Classical in
/-- FitsFaults, as both tell it. -/
noncomputable def fitsFB (s : List (List Int)) (set : Int) : Bool := decide (Syn s ∧ 0 ≤ set ∧ set < (pw s.length : Int) ∧ Fits s set.toNat)
theorem fitsFB_iff (s : List (List Int)) (set : Int) : fitsFB s set = true ↔ Syn s ∧ 0 ≤ set ∧ set < (pw s.length : Int) ∧ Fits s set.toNat := by simp [fitsFB]
theorem impl_fitsE (s : List (List Int)) (hn : s.length < 4611686018427387904) (set : Int) : Ev (fun k => impl_FitsFaults.f k s set) (fitsFB s set) := by
  unfold impl_FitsFaults.f
  refine Ev.bind (impl_synE s hn) ?_
  have no : ¬ (Syn s ∧ 0 ≤ set ∧ set < (pw s.length : Int) ∧ Fits s set.toNat) → Ev (fun n => impl_FitsFaults.j0 n s set true) (fitsFB s set) := fun h =>
    Tells.ev (Tells.step (fun k => by rw [impl_FitsFaults.j0]) (Tells.pos rfl (Tells.no h))) (fitsFB_iff s set)
  by_cases hs : Syn s
  · have h5 := hs.1.2
    have hp := pw5 h5
    refine ev_pos ((synB_iff s).2 hs) ?_
    by_cases h0 : set < 0
    · exact ev_pos h0 (no fun h => by omega)
    refine ev_neg h0 ?_
    rw [shl_nat s.length (by omega)]
    by_cases h1 : set ≥ (pw s.length : Int)
    · rw [decide_eq_true h1]
      exact no fun h => by omega
    rw [decide_eq_false h1]
    obtain ⟨m, rfl⟩ : ∃ m : Nat, set = (m : Int) := ⟨set.toNat, by omega⟩
    refine Ev.step (fun k => by rw [impl_FitsFaults.j0]) (ev_neg (by decide) ?_)
    refine Tells.ev (Tells.iff (impl_fits_l s hs m (by omega) s.length 0 (by omega)) ?_) (fitsFB_iff s _)
    exact ⟨fun h => ⟨hs, by omega, by omega, fun i hi => h i (by omega) hi⟩, fun h i _ hi => h.2.2.2 i hi⟩
  · refine ev_neg (fun h => hs ((synB_iff s).1 h)) (no fun h => hs h.1)
theorem spec_fitsE (s : List (List Int)) (hn : s.length < 4611686018427387904) (set : Int) : Ev (fun k => spec_FitsFaults.f k s set) (fitsFB s set) := by
  unfold spec_FitsFaults.f
  refine Ev.bind (spec_synE s hn) ?_
  have no : ¬ (Syn s ∧ 0 ≤ set ∧ set < (pw s.length : Int) ∧ Fits s set.toNat) → Ev (fun _ => some false) (fitsFB s set) := fun h =>
    Tells.ev (Tells.no h) (fitsFB_iff s set)
  by_cases hs : Syn s
  · have h5 := hs.1.2
    have hp := pw5 h5
    refine ev_pos ((synB_iff s).2 hs) ?_
    rw [shl_nat s.length (by omega), w64 (by omega) (by omega)]
    refine ev_bindc (l1In _ _ _) ?_
    by_cases h : 0 ≤ set ∧ set ≤ (pw s.length : Int) - 1
    · refine ev_pos (decide_eq_true h) ?_
      obtain ⟨m, rfl⟩ : ∃ m : Nat, set = (m : Int) := ⟨set.toNat, by omega⟩
      refine Ev.bind (spec_l10fitsE s hs m (by omega)) (ev_ret ?_)
      rw [Bool.eq_iff_iff, fitsB_iff, fitsFB_iff]
      exact ⟨fun h' => ⟨hs, by omega, by omega, h'⟩, fun h' => h'.2.2.2⟩
    · refine ev_neg (fun h' => h (of_decide_eq_true h')) (no fun h' => h ⟨by omega, by omega⟩)
  · refine ev_neg (fun h => hs ((synB_iff s).1 h)) (no fun h => hs h.1)
end Go.Proofs.Ytgfchnfceomcbaa.M

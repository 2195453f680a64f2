/- VotesAgainst of the program and of the reference: the sum of a column; how it stands to a set that fits. -/
import Derived.Test.YtgfchnfceomcbaaMSets
import Derived.Test.YtgfchnfceomcbaaPx12
import Derived.Test.YtgfchnfceomcbaaPx12
set_option linter.unusedVariables false
set_option linter.unusedSimpArgs false
namespace Go.Proofs.Ytgfchnfceomcbaa.M
open Go Go.RowKit Go.Proofs.YtgfchnfceomcbaaW.PrintWords Go.Proofs.Ytgfchnfceomcbaa.P

/-- The column u of the rows i .. i+d-1. -/
def vsum (s : List (List Int)) (u : Nat) : Nat → Nat → Int
  | _, 0 => 0
  | i, d + 1 => ent s i u + vsum s u (i + 1) d
theorem vsum_bd (s : List (List Int)) (hs : Syn s) (u : Nat) (hu : u < s.length) : ∀ d i, i + d ≤ s.length → 0 ≤ vsum s u i d ∧ vsum s u i d ≤ (d : Int) := by
  intro d
  induction d with
  | zero => exact fun i _ => ⟨Int.le_refl _, Int.le_refl _⟩
  | succ d ih =>
    intro i hi
    have h1 := ih (i + 1) (by omega)
    have h2 := (hs.2 i (by omega)).2.2 u hu
    simp only [vsum]
    omega
theorem impl_votes_l (s : List (List Int)) (hs : Syn s) (u : Nat) (hu : u < s.length) : ∀ d i (a : Nat), i + d = s.length → a ≤ i →
    Ev (fun k => impl_VotesAgainst.l0 k (u : Int) (a : Int) s (s.length : Int) (i : Int)) ((a : Int) + vsum s u i d) := by
  have h5 := hs.1.2
  intro d
  induction d with
  | zero =>
    intro i a hi ha
    refine Ev.step (fun k => by rw [impl_VotesAgainst.l0]) ?_
    exact ev_neg (by omega) (ev_ret (by simp [vsum]))
  | succ d ih =>
    intro i a hi ha
    have h2 := (hs.2 i (by omega)).2.2 u hu
    have h1 := (hs.2 i (by omega)).1
    refine Ev.step (fun k => by rw [impl_VotesAgainst.l0]) ?_
    rw [rdE, rdL, w64s (by omega), w64 (by omega) (by omega)]
    refine ev_pos (by omega) ?_
    refine ev_pos (by omega) ?_
    refine ev_pos (by omega) ?_
    refine ev_pos (by omega) ?_
    refine ev_pos (by omega) ?_
    obtain ⟨a', ha', hle⟩ : ∃ a' : Nat, (a : Int) + ent s i u = (a' : Int) ∧ a' ≤ i + 1 := ⟨((a : Int) + ent s i u).toNat, by omega, by omega⟩
    rw [ha']
    refine ev_eq (ih (i + 1) a' (by omega) hle) ?_
    simp only [vsum]
    omega
theorem spec_votes_l (s : List (List Int)) (hs : Syn s) (u : Nat) (hu : u < s.length) : ∀ d i (a : Nat), i + d = s.length → a ≤ i →
    Ev (fun k => spec_VotesAgainst.l0 k s (u : Int) (a : Int) (i : Int)) ((a : Int) + vsum s u i d) := by
  have h5 := hs.1.2
  intro d
  induction d with
  | zero =>
    intro i a hi ha
    refine Ev.step (fun k => by rw [spec_VotesAgainst.l0]) ?_
    exact ev_neg (by omega) (ev_ret (by simp [vsum]))
  | succ d ih =>
    intro i a hi ha
    have h2 := (hs.2 i (by omega)).2.2 u hu
    have h1 := (hs.2 i (by omega)).1
    refine Ev.step (fun k => by rw [spec_VotesAgainst.l0]) ?_
    rw [rdE, rdL, w64s (by omega), w64 (by omega) (by omega)]
    refine ev_pos (by omega) ?_
    refine ev_pos (by omega) ?_
    refine ev_pos (by omega) ?_
    refine ev_pos (by omega) ?_
    obtain ⟨a', ha', hle⟩ : ∃ a' : Nat, (a : Int) + ent s i u = (a' : Int) ∧ a' ≤ i + 1 := ⟨((a : Int) + ent s i u).toNat, by omega, by omega⟩
    rw [ha']
    refine ev_eq (ih (i + 1) a' (by omega) hle) ?_
    simp only [vsum]
    omega
open Classical in
/-- VotesAgainst, as both tell it. -/
noncomputable def votesF (s : List (List Int)) (u : Int) : Int := if Syn s ∧ 0 ≤ u ∧ u < (s.length : Int) then vsum s u.toNat 0 s.length else -1
theorem impl_votesE (s : List (List Int)) (hn : s.length < 4611686018427387904) (u : Int) : Ev (fun k => impl_VotesAgainst.f k s u) (votesF s u) := by
  unfold impl_VotesAgainst.f
  refine ev_bind (impl_synE s hn) ?_
  have no : ¬ (Syn s ∧ 0 ≤ u ∧ u < (s.length : Int)) → Ev (fun k => impl_VotesAgainst.j0 k s u true) (votesF s u) := fun h => by
    refine Ev.step (fun k => by rw [impl_VotesAgainst.j0]) ?_
    refine ev_pos rfl (ev_ret ?_)
    unfold votesF
    rw [if_neg h]
  by_cases hs : Syn s
  · refine ev_pos ((synB_iff s).2 hs) ?_
    by_cases h0 : u < 0
    · exact ev_pos h0 (no fun h => by omega)
    refine ev_neg h0 ?_
    by_cases h1 : u ≥ (s.length : Int)
    · rw [decide_eq_true h1]
      exact no fun h => by omega
    rw [decide_eq_false h1]
    obtain ⟨u, rfl⟩ : ∃ u' : Nat, u = (u' : Int) := ⟨u.toNat, by omega⟩
    refine Ev.step (fun k => by rw [impl_VotesAgainst.j0]) ?_
    refine ev_neg (by decide) ?_
    refine ev_eq (impl_votes_l s hs u (by omega) s.length 0 0 (by omega) (by omega)) ?_
    unfold votesF
    rw [if_pos ⟨hs, by omega, by omega⟩, Int.toNat_natCast]
    omega
  · exact ev_neg (fun h => hs ((synB_iff s).1 h)) (no fun h => hs h.1)
theorem spec_votesE (s : List (List Int)) (hn : s.length < 4611686018427387904) (u : Int) : Ev (fun k => spec_VotesAgainst.f k s u) (votesF s u) := by
  unfold spec_VotesAgainst.f
  refine ev_bind (spec_synE s hn) ?_
  have no : ¬ (Syn s ∧ 0 ≤ u ∧ u < (s.length : Int)) → Ev (fun k => spec_VotesAgainst.j0 k s u true) (votesF s u) := fun h => by
    refine Ev.step (fun k => by rw [spec_VotesAgainst.j0]) ?_
    refine ev_pos rfl (ev_ret ?_)
    unfold votesF
    rw [if_neg h]
  by_cases hs : Syn s
  · refine ev_pos ((synB_iff s).2 hs) ?_
    have h5 := hs.1
    unfold Small at h5
    rw [w64 (by omega) (by omega)]
    refine ev_bindc (l1In _ _ _) ?_
    by_cases h : 0 ≤ u ∧ u ≤ (s.length : Int) - 1
    · rw [decide_eq_true h]
      obtain ⟨u, rfl⟩ : ∃ u' : Nat, u = (u' : Int) := ⟨u.toNat, by omega⟩
      refine Ev.step (fun k => by rw [spec_VotesAgainst.j0]) ?_
      refine ev_neg (by decide) ?_
      refine ev_eq (spec_votes_l s hs u (by omega) s.length 0 0 (by omega) (by omega)) ?_
      unfold votesF
      rw [if_pos ⟨hs, by omega, by omega⟩, Int.toNat_natCast]
      omega
    · rw [decide_eq_false h]
      exact no fun h' => h ⟨by omega, by omega⟩
  · exact ev_neg (fun h => hs ((synB_iff s).1 h)) (no fun h => hs h.1)

/-- The bits i .. i+d-1 of A. -/
def bsum (A : Nat) : Nat → Nat → Nat
  | _, 0 => 0
  | i, d + 1 => bitN A i + bsum A (i + 1) d
theorem bsum_pop : ∀ n, n < 6 → ∀ A, A < pw n → bsum A 0 n = popN 5 A := by
  show ∀ n, n < 6 → ∀ A, A < 2 ^ n → bsum A 0 n = popN 5 A
  decide +kernel
theorem votes_in (s : List (List Int)) (hs : Syn s) (A u : Nat) (hu : u < s.length) (hf : Fits s A) (hb : bitN A u = 1) : ∀ d i, i + d ≤ s.length → (d : Int) ≤ vsum s u i d + (bsum A i d : Nat) := by
  intro d
  induction d with
  | zero => exact fun i _ => by simp [vsum]
  | succ d ih =>
    intro i hi
    have h1 := ih (i + 1) (by omega)
    have h2 := (hs.2 i (by omega)).2.2 u hu
    have h3 := bitN_01 A i
    have h4 : bitN A i = 0 → ent s i u = 1 := fun z => by
      have := hf i (by omega) z u hu (fun e => by subst e; omega)
      omega
    simp only [vsum, bsum]
    omega
theorem votes_out (s : List (List Int)) (hs : Syn s) (A u : Nat) (hu : u < s.length) (hf : Fits s A) (hb : bitN A u = 0) : ∀ d i, i + d ≤ s.length → vsum s u i d ≤ (bsum A i d : Nat) := by
  intro d
  induction d with
  | zero => exact fun i _ => by simp [vsum]
  | succ d ih =>
    intro i hi
    have h1 := ih (i + 1) (by omega)
    have h2 := (hs.2 i (by omega)).2.2 u hu
    have h3 := bitN_01 A i
    have h4 : bitN A i = 0 → ent s i u = 0 := fun z => by
      by_cases e : u = i
      · have := (hs.2 i (by omega)).2.1
        rw [e]
        exact this
      · have := hf i (by omega) z u hu e
        omega
    simp only [vsum, bsum]
    omega
theorem votes_less (s : List (List Int)) (hs : Syn s) (u : Nat) (hu : u < s.length) : ∀ d i, i + d ≤ s.length → i ≤ u → u < i + d → vsum s u i d < (d : Int) := by
  intro d
  induction d with
  | zero => exact fun i _ _ _ => by omega
  | succ d ih =>
    intro i hi h1 h2
    have h3 := (hs.2 i (by omega)).2.2 u hu
    have h4 := vsum_bd s hs u hu d (i + 1) (by omega)
    simp only [vsum]
    by_cases e : u = i
    · have h5 := (hs.2 i (by omega)).2.1
      rw [e] at h4 ⊢
      omega
    · have := ih (i + 1) (by omega) (by omega) (by omega)
      omega
end Go.Proofs.Ytgfchnfceomcbaa.M

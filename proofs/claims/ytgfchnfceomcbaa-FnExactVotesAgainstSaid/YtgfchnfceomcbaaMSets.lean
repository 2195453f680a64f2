/- FaultSets and OnlyFaults of the program and of the reference: the sets that fit; fewer than half of all units are told. -/
import Derived.Test.YtgfchnfceomcbaaMFits
import Derived.Test.YtgfchnfceomcbaaPx16
import Derived.Test.YtgfchnfceomcbaaPx19
import Derived.Test.YtgfchnfceomcbaaPx1
import Derived.Test.YtgfchnfceomcbaaPx1
set_option linter.unusedVariables false
set_option linter.unusedSimpArgs false
namespace Go.Proofs.Ytgfchnfceomcbaa.M
open Go Go.RowKit Go.Proofs.YtgfchnfceomcbaaW.PrintWords Go.Proofs.Ytgfchnfceomcbaa.P

theorem spec_heads_l : ∀ n m acc : Nat, m < 2 ^ n → n ≤ 62 → acc + n ≤ 1000 → Ev (fun k => spec_l1Heads.l0 k (m : Int) (acc : Int)) ((acc + popN n m : Nat) : Int) := by
  intro n
  induction n with
  | zero =>
    intro m acc hm _ _
    obtain rfl : m = 0 := by simpa using hm
    refine Ev.step (fun k => by rw [spec_l1Heads.l0]) ?_
    exact ev_neg (by decide) (ev_ret rfl)
  | succ n ih =>
    intro m acc hm hn ha
    refine Ev.step (fun k => by rw [spec_l1Heads.l0]) ?_
    by_cases h : m = 0
    · subst h
      exact ev_neg (by decide) (ev_ret (by rw [popN_zero]; rfl))
    · refine ev_pos (by omega) ?_
      have hb : m < 9223372036854775808 := Nat.lt_of_lt_of_le hm (Nat.pow_le_pow_right (n := 2) (j := 63) (by decide) (by omega))
      rw [tmod2, tdiv2, w64 (by omega) (by omega), w64 (by omega) (by omega)]
      have := ih (m / 2) (acc + m % 2) (by rw [Nat.pow_succ] at hm; omega) (by omega) (by omega)
      rw [popN, ← Nat.add_assoc]
      exact_mod_cast this
theorem spec_headsE (n m : Nat) (hm : m < 2 ^ n) (hn : n ≤ 62) : Ev (fun k => spec_l1Heads.f k (m : Int)) ((popN n m : Nat) : Int) := by
  have := spec_heads_l n m 0 hm hn (by omega)
  rw [Nat.zero_add] at this
  exact this
theorem onesE : ∀ m : Nat, m < 32 → bits_OnesCount.f (IntKind.u64.wrap (m : Int)) = some ((popN 5 m : Nat) : Int) := by decide +kernel

/-- m is a set of at most so many units that fits. -/
noncomputable def good (s : List (List Int)) (most : Int) (m : Nat) : Bool := decide (((popN 5 m : Nat) : Int) ≤ most) && fitsB s m
noncomputable def setsFrom (s : List (List Int)) (most : Int) (i d : Nat) : List Int := ((List.range' i d).filter (good s most)).map (fun m : Nat => (m : Int))
theorem setsFrom_succ (s : List (List Int)) (most : Int) (i d : Nat) : setsFrom s most i (d + 1) = if good s most i = true then (i : Int) :: setsFrom s most (i + 1) d else setsFrom s most (i + 1) d := by
  unfold setsFrom
  rw [List.range'_succ, List.filter_cons]
  split <;> rfl
theorem fitsFB_small (s : List (List Int)) (hs : Syn s) (i : Nat) (hi : i < pw s.length) : fitsFB s (i : Int) = fitsB s i := by
  rw [Bool.eq_iff_iff, fitsFB_iff, fitsB_iff]
  exact ⟨fun h => h.2.2.2, fun h => ⟨hs, by omega, by omega, h⟩⟩
theorem impl_sets_l (s : List (List Int)) (hs : Syn s) (most : Int) : ∀ d i (acc : List Int), i + d = pw s.length → acc.length ≤ i →
    Ev (fun k => impl_FaultSets.l0 k s most acc (pw s.length : Int) (i : Int)) (acc ++ setsFrom s most i d) := by
  have h5 := hs.1.2
  have hp := pw5 h5
  intro d
  induction d with
  | zero =>
    intro i acc hi ha
    refine Ev.step (fun k => by rw [impl_FaultSets.l0]) ?_
    exact ev_neg (by omega) (ev_ret (by simp [setsFrom]))
  | succ d ih =>
    intro i acc hi ha
    refine Ev.step (fun k => by rw [impl_FaultSets.l0]) (ev_pos (by omega) ?_)
    refine ev_bindc (onesE i (by omega)) ?_
    rw [w64s (by omega), setsFrom_succ]
    by_cases h1 : ((popN 5 i : Nat) : Int) ≤ most
    · refine ev_pos h1 (Ev.bind (impl_fitsE s (by omega) (i : Int)) ?_)
      rw [fitsFB_small s hs i (by omega)]
      by_cases h2 : fitsB s i = true
      · refine ev_pos h2 (ev_pos (by omega) ?_)
        rw [if_pos (by simp [good, h1, h2])]
        refine ev_eq (ih (i + 1) (acc ++ [(i : Int)]) (by omega) (by simp; omega)) (by simp)
      · refine ev_neg h2 ?_
        rw [if_neg (by simp [good, h2])]
        exact ih (i + 1) acc (by omega) (by omega)
    · refine ev_neg h1 ?_
      rw [if_neg (by simp [good, h1])]
      exact ih (i + 1) acc (by omega) (by omega)
open Classical in
/-- FaultSets, as both tell it. -/
noncomputable def setsF (s : List (List Int)) (most : Int) : List Int := if Syn s then setsFrom s most 0 (pw s.length) else []
theorem sets_neg (s : List (List Int)) (most : Int) (h : most < 0) : setsF s most = [] := by
  unfold setsF
  split
  · unfold setsFrom
    rw [List.map_eq_nil_iff, List.filter_eq_nil_iff]
    intro m _
    have : ¬ (((popN 5 m : Nat) : Int) ≤ most) := by omega
    simp [good, this]
  · rfl
theorem impl_setsE (s : List (List Int)) (hn : s.length < 4611686018427387904) (most : Int) : Ev (fun k => impl_FaultSets.f k s most) (setsF s most) := by
  unfold impl_FaultSets.f
  refine Ev.bind (impl_synE s hn) ?_
  by_cases hs : Syn s
  · refine ev_pos ((synB_iff s).2 hs) ?_
    by_cases h : most < 0
    · rw [decide_eq_true h, sets_neg s most h]
      refine Ev.step (fun k => by rw [impl_FaultSets.j0]) ?_
      exact ev_pos rfl (ev_ret rfl)
    · rw [decide_eq_false h]
      refine Ev.step (fun k => by rw [impl_FaultSets.j0]) (ev_neg (by decide) ?_)
      have h5 := hs.1.2
      rw [shl_nat s.length (by omega)]
      refine ev_eq (impl_sets_l s hs most (pw s.length) 0 [] (by omega) (by simp)) ?_
      unfold setsF
      rw [if_pos hs]
      rfl
  · refine ev_neg (fun h => hs ((synB_iff s).1 h)) ?_
    refine Ev.step (fun k => by rw [impl_FaultSets.j0]) (ev_pos rfl (ev_ret ?_))
    unfold setsF
    rw [if_neg hs]
theorem spec_sets_l (s : List (List Int)) (hs : Syn s) (most : Int) : ∀ d i (acc : List Int), i + d = pw s.length → acc.length ≤ i →
    Ev (fun k => spec_FaultSets.l0 k s most acc (i : Int)) (acc ++ setsFrom s most i d) := by
  have h5 := hs.1.2
  have hp := pw5 h5
  intro d
  induction d with
  | zero =>
    intro i acc hi ha
    refine Ev.step (fun k => by rw [spec_FaultSets.l0]) (Ev.bind (spec_synE s (by omega)) (ev_pos ((synB_iff s).2 hs) ?_))
    rw [shl_nat s.length (by omega), decide_eq_false (by omega)]
    refine Ev.step (fun k => by rw [spec_FaultSets.j1]) ?_
    exact ev_neg (by decide) (ev_ret (by simp [setsFrom]))
  | succ d ih =>
    intro i acc hi ha
    refine Ev.step (fun k => by rw [spec_FaultSets.l0]) (Ev.bind (spec_synE s (by omega)) (ev_pos ((synB_iff s).2 hs) ?_))
    rw [shl_nat s.length (by omega), decide_eq_true (by omega)]
    refine Ev.step (fun k => by rw [spec_FaultSets.j1]) (ev_pos rfl ?_)
    refine Ev.bind (spec_headsE 5 i (by omega) (by omega)) ?_
    rw [w64s (by omega), setsFrom_succ]
    by_cases h1 : ((popN 5 i : Nat) : Int) ≤ most
    · refine ev_pos h1 (Ev.bind (spec_l10fitsE s hs i (by omega)) ?_)
      by_cases h2 : fitsB s i = true
      · refine ev_pos h2 (ev_pos (by omega) ?_)
        rw [if_pos (by simp [good, h1, h2])]
        refine ev_eq (ih (i + 1) (acc ++ [(i : Int)]) (by omega) (by simp; omega)) (by simp)
      · refine ev_neg h2 ?_
        rw [if_neg (by simp [good, h2])]
        exact ih (i + 1) acc (by omega) (by omega)
    · refine ev_neg h1 ?_
      rw [if_neg (by simp [good, h1])]
      exact ih (i + 1) acc (by omega) (by omega)
theorem spec_setsE (s : List (List Int)) (hn : s.length < 4611686018427387904) (most : Int) : Ev (fun k => spec_FaultSets.f k s most) (setsF s most) := by
  by_cases hs : Syn s
  · refine ev_eq (spec_sets_l s hs most (pw s.length) 0 [] (by omega) (by simp)) ?_
    unfold setsF
    rw [if_pos hs]
    rfl
  · unfold spec_FaultSets.f
    refine Ev.step (fun k => by rw [spec_FaultSets.l0]) (Ev.bind (spec_synE s hn) (ev_neg (fun h => hs ((synB_iff s).1 h)) ?_))
    refine Ev.step (fun k => by rw [spec_FaultSets.j1]) (ev_neg (by decide) (ev_ret ?_))
    unfold setsF
    rw [if_neg hs]

def sureM (n : Int) : Int := if 1 ≤ n ∧ n ≤ 5 then Int.tdiv (n - 1) 2 else -1
theorem spec_sure (n : Int) : spec_SureMost.f n = some (sureM n) := by
  unfold spec_SureMost.f sureM
  rw [l1In]
  simp only [Option.bind_some]
  by_cases h : 1 ≤ n ∧ n ≤ 5
  · rw [if_pos (decide_eq_true h), if_pos h, w64 (x := n - 1) (by omega) (by omega), w64]
    · have := Int.tdiv_eq_ediv_of_nonneg (a := n - 1) (b := 2) (by omega)
      omega
    · have := Int.tdiv_eq_ediv_of_nonneg (a := n - 1) (b := 2) (by omega)
      omega
  · rw [if_neg (fun h' => h (of_decide_eq_true h')), if_neg h]
theorem impl_sure (n : Int) : impl_SureMost.f n = some (sureM n) := by
  unfold impl_SureMost.f sureM
  by_cases h1 : n < 1
  · rw [if_pos h1, if_neg (by omega)]
  · by_cases h2 : n > 5
    · rw [if_neg h1, if_pos h2, if_neg (by omega)]
    · rw [if_neg h1, if_neg h2, if_pos (by omega), w64 (x := n - 1) (by omega) (by omega), w64]
      · have := Int.tdiv_eq_ediv_of_nonneg (a := n - 1) (b := 2) (by omega)
        omega
      · have := Int.tdiv_eq_ediv_of_nonneg (a := n - 1) (b := 2) (by omega)
        omega
theorem sureM_nat (n : Nat) (h1 : 1 ≤ n) (h5 : n ≤ 5) : sureM (n : Int) = (((n - 1) / 2 : Nat) : Int) := by
  unfold sureM
  rw [if_pos ⟨by omega, by omega⟩, show (n : Int) - 1 = ((n - 1 : Nat) : Int) by omega, tdiv2]

/-- Two small sets leave a unit out. -/
theorem two_small : ∀ n, n < 6 → ∀ A, A < pw n → ∀ B, B < pw n → popN 5 A ≤ (n - 1) / 2 → popN 5 B ≤ (n - 1) / 2 → 1 ≤ n → ∃ i, i < n ∧ bitN A i = 0 ∧ bitN B i = 0 := by
  have h : ∀ n, n < 6 → ∀ A, A < 2 ^ n → ∀ B, B < 2 ^ n → (!decide (popN 5 A ≤ (n - 1) / 2) || !decide (popN 5 B ≤ (n - 1) / 2) || n == 0 || (List.range n).any fun i => bitN A i == 0 && bitN B i == 0) = true := by decide +kernel
  intro n hn A hA B hB h1 h2 h3
  have h4 := h n hn A hA B hB
  have h5 : ¬ n = 0 := by omega
  simpa [h1, h2, h5, List.any_eq_true] using h4
theorem bits_ext : ∀ n, n < 6 → ∀ A, A < pw n → ∀ B, B < pw n → (∀ j, j < n → bitN A j = bitN B j) → A = B := by
  show ∀ n, n < 6 → ∀ A, A < 2 ^ n → ∀ B, B < 2 ^ n → (∀ j, j < n → bitN A j = bitN B j) → A = B
  decide +kernel
theorem only_one (s : List (List Int)) (hs : Syn s) (A B : Nat) (hA : A < pw s.length) (hB : B < pw s.length) (pA : popN 5 A ≤ (s.length - 1) / 2) (pB : popN 5 B ≤ (s.length - 1) / 2) (fA : Fits s A) (fB : Fits s B) : A = B := by
  obtain ⟨⟨h1, h5⟩, _⟩ := hs
  obtain ⟨i, hi, a0, b0⟩ := two_small s.length (by omega) A hA B hB pA pB h1
  refine bits_ext s.length (by omega) A hA B hB fun j hj => ?_
  by_cases e : j = i
  · rw [e, a0, b0]
  · have a := fA i hi a0 j hj e
    have b := fB i hi b0 j hj e
    omega
theorem mem_sets (s : List (List Int)) (hs : Syn s) (most : Int) (x : Int) : x ∈ setsF s most ↔ ∃ m : Nat, x = (m : Int) ∧ m < pw s.length ∧ ((popN 5 m : Nat) : Int) ≤ most ∧ Fits s m := by
  unfold setsF
  rw [if_pos hs]
  unfold setsFrom
  simp only [List.mem_map, List.mem_filter, List.mem_range'_1, good, Bool.and_eq_true, decide_eq_true_eq, fitsB_iff]
  constructor
  · rintro ⟨m, ⟨⟨_, h⟩, h1, h2⟩, rfl⟩
    exact ⟨m, rfl, by omega, h1, h2⟩
  · rintro ⟨m, rfl, h, h1, h2⟩
    exact ⟨m, ⟨⟨by omega, by omega⟩, h1, h2⟩, rfl⟩
theorem sets_asc (s : List (List Int)) (most : Int) : (setsF s most).Pairwise (· < ·) := by
  unfold setsF
  split
  · unfold setsFrom
    refine List.Pairwise.map (R := fun a b : Nat => a < b) _ (fun a b h => by omega) ?_
    exact List.Pairwise.filter _ List.pairwise_lt_range'
  · exact List.Pairwise.nil
theorem sets_short (s : List (List Int)) (hs : Syn s) : (setsF s (sureM (s.length : Int))).length ≤ 1 := by
  have hp := sets_asc s (sureM (s.length : Int))
  have hm := mem_sets s hs (sureM (s.length : Int))
  rw [sureM_nat _ hs.1.1 hs.1.2] at *
  match h : setsF s (((s.length - 1) / 2 : Nat) : Int) with
  | [] => simp
  | [_] => simp
  | x :: y :: l =>
    rw [h] at hp hm
    obtain ⟨A, rfl, a1, a2, a3⟩ := (hm x).1 (by simp)
    obtain ⟨B, rfl, b1, b2, b3⟩ := (hm y).1 (by simp)
    have := only_one s hs A B a1 b1 (by omega) (by omega) a3 b3
    rw [List.pairwise_cons] at hp
    have := hp.1 (B : Int) (by simp)
    omega
/-- OnlyFaults, as both tell it. -/
noncomputable def onlyF (s : List (List Int)) : Int × Bool := match setsF s (sureM (s.length : Int)) with | [] => (0, false) | x :: _ => (x, true)
theorem sets_none (s : List (List Int)) (h : ¬ Syn s) (most : Int) : setsF s most = [] := by
  unfold setsF
  rw [if_neg h]
end Go.Proofs.Ytgfchnfceomcbaa.M

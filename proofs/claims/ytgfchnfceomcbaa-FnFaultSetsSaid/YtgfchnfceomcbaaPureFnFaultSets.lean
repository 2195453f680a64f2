/- FaultSets: the sets that fit, with at most so many units, are listed in ascending order, and no others are, whatever is drawn: no condition. -/
import Derived.Test.YtgfchnfceomcbaaMDraw
import Derived.Test.YtgfchnfceomcbaaMSets
import Derived.Test.YtgfchnfceomcbaaMHas
import Derived.Test.YtgfchnfceomcbaaPx25
import Derived.Test.YtgfchnfceomcbaaPx18
import Derived.Test.YtgfchnfceomcbaaPx3
import Derived.Test.YtgfchnfceomcbaaPx15
import Derived.Test.YtgfchnfceomcbaaPx24
set_option linter.unusedVariables false
set_option linter.unusedSimpArgs false
namespace Go.Proofs.Ytgfchnfceomcbaa.Pure
open Go Go.RowKit Go.Proofs.Ytgfchnfceomcbaa.P Go.Proofs.YtgfchnfceomcbaaW.PrintWords Go.Proofs.YtgfchnfceomcbaaW.PrintLast Go.Proofs.Ytgfchnfceomcbaa.M
theorem alive_ok : laws_alive.f = some true := by decide +kernel
theorem same_ints_l (xs : List Int) (hn : xs.length < 4611686018427387904) : ∀ d i, i + d = xs.length → Ev (fun k => laws_sameInts.l0 k xs xs (i : Int)) true := by
  intro d
  induction d with
  | zero =>
    intro i hi
    refine Ev.step (fun k => by rw [laws_sameInts.l0]) ?_
    exact ev_neg (by omega) (ev_ret rfl)
  | succ d ih =>
    intro i hi
    refine Ev.step (fun k => by rw [laws_sameInts.l0]) ?_
    rw [w64s (by omega)]
    refine ev_pos (by omega) ?_
    refine ev_pos (by omega) ?_
    refine ev_pos (by omega) ?_
    exact ev_pos rfl (ih (i + 1) (by omega))
theorem asc_l (xs : List Int) (hn : xs.length < 4611686018427387904) (hp : xs.Pairwise (· < ·)) : ∀ d i, i + d = xs.length → 1 ≤ i → Ev (fun k => laws_ascend.l0 k xs (i : Int)) true := by
  intro d
  induction d with
  | zero =>
    intro i hi h1
    refine Ev.step (fun k => by rw [laws_ascend.l0]) ?_
    exact ev_neg (by omega) (ev_ret rfl)
  | succ d ih =>
    intro i hi h1
    refine Ev.step (fun k => by rw [laws_ascend.l0]) ?_
    rw [w64 (x := (i : Int) - 1) (by omega) (by omega), show (i : Int) - 1 = ((i - 1 : Nat) : Int) by omega, w64s (by omega), rdN, rdN]
    refine ev_pos (by omega) ?_
    refine ev_pos (by omega) ?_
    refine ev_pos (by omega) ?_
    refine ev_pos (by omega) ?_
    refine ev_neg ?_ (ih (i + 1) (by omega) (by omega))
    have := List.pairwise_iff_getElem.1 hp (i - 1) i (by omega) (by omega) (by omega)
    rw [List.getD_eq_getElem?_getD, List.getElem?_eq_getElem (by omega), List.getD_eq_getElem?_getD, List.getElem?_eq_getElem (by omega)]
    show ¬ xs[i - 1] ≥ xs[i]
    omega
theorem asc (xs : List Int) (hn : xs.length < 4611686018427387904) (hp : xs.Pairwise (· < ·)) : Ev (fun k => laws_ascend.f k xs) true := by
  unfold laws_ascend.f
  by_cases h : 1 ≤ xs.length
  · exact asc_l xs hn hp (xs.length - 1) 1 (by omega) (Nat.le_refl _)
  · refine Ev.step (fun k => by rw [laws_ascend.l0]) ?_
    exact ev_neg (by omega) (ev_ret rfl)
theorem drawn (l : List Int) (hw : ∀ x ∈ l, (Lit.int .u8 x).wf = true) : ∃ s most, Ev (fun k => spec_DrawFaultSets.f k l) (s, most) ∧ Shape s ∧ -100 ≤ most ∧ most ≤ 100 := by
  obtain ⟨b, hb, hB⟩ := openE l hw
  obtain ⟨s, q, hs, hq, hS⟩ := syndromeE b hB 0 (by omega) 12 (by omega)
  obtain ⟨r, hr, hr6, _⟩ := pickE b hB q (by omega) 6
  obtain ⟨r2, hr2, hr40, _⟩ := pickE b hB (q + 1) (by omega) 40
  have hr6 := hr6 (by omega)
  have hr40 := hr40 (by omega)
  have hq2 := tdiv_bd (r2 : Int) 39 (by omega) (by omega)
  refine ⟨s, wrap64 ((r : Int) - wrap64 (wrap64 (Int.tdiv (r2 : Int) 39) * 6)), ?_, hS, ?_⟩
  · unfold spec_DrawFaultSets.f
    refine ev_bindc hb ?_
    refine ev_bind hs ?_
    refine ev_bind hr ?_
    refine ev_bind hr2 ?_
    exact ev_ret rfl
  · show -100 ≤ wrap64 ((r : Int) - wrap64 (wrap64 (Int.tdiv (r2 : Int) 39) * 6)) ∧ wrap64 ((r : Int) - wrap64 (wrap64 (Int.tdiv (r2 : Int) 39) * 6)) ≤ 100
    have : Int.tdiv (r2 : Int) 39 ≤ 1 := by
      rw [Int.tdiv_eq_ediv_of_nonneg (by omega)]
      omega
    generalize Int.tdiv (r2 : Int) 39 = t at *
    rw [w64 (x := t) (by omega) (by omega), w64 (x := t * 6) (by omega) (by omega), w64 (by omega) (by omega)]
    omega
theorem sets_loop (s : List (List Int)) (hs : Syn s) (most : Int) : ∀ d i : Nat, i + d = pw s.length → Ev (fun k => laws_FnFaultSets.l0 k s most (setsF s most) (i : Int)) true := by
  have h5 := hs.1.2
  have hp := pw5 h5
  have hlen : (setsF s most).length ≤ 32 := by
    unfold setsF
    rw [if_pos hs]
    unfold setsFrom
    rw [List.length_map]
    exact Nat.le_trans (List.length_filter_le _ _) (by rw [List.length_range']; omega)
  intro d
  induction d with
  | zero =>
    intro i hi
    refine Ev.step (fun k => by rw [laws_FnFaultSets.l0]) ?_
    rw [shl_nat s.length (by omega)]
    refine ev_neg (by omega) ?_
    refine ev_bind (asc _ (by omega) (sets_asc s most)) ?_
    refine ev_pos rfl ?_
    exact ev_bindc alive_ok (ev_ret rfl)
  | succ d ih =>
    intro i hi
    refine Ev.step (fun k => by rw [laws_FnFaultSets.l0]) ?_
    rw [shl_nat s.length (by omega), w64s (by omega)]
    refine ev_pos (by omega) ?_
    refine ev_bind (impl_fitsE s (by omega) _) ?_
    rw [fitsFB_small s hs i (by omega)]
    obtain ⟨hb, hE, hiff⟩ := has_int (setsF s most) (i : Int) (by omega)
    have hmem : hb = true ↔ ((popN 5 i : Nat) : Int) ≤ most ∧ Fits s i := by
      rw [hiff, mem_sets s hs]
      constructor
      · rintro ⟨m, e, _, h2, h3⟩
        obtain rfl : i = m := by omega
        exact ⟨h2, h3⟩
      · rintro ⟨h2, h3⟩
        exact ⟨i, rfl, by omega, h2, h3⟩
    by_cases hf : fitsB s i = true
    · refine ev_pos hf ?_
      refine ev_bind (law_headsE 5 i (by omega) (by omega)) ?_
      refine ev_bind hE ?_
      refine ev_neg ?_ (ih (i + 1) (by omega))
      have : decide (((popN 5 i : Nat) : Int) ≤ most) = hb := by
        rw [Bool.eq_iff_iff, hmem, decide_eq_true_eq]
        exact ⟨fun h => ⟨h, (fitsB_iff s i).1 hf⟩, fun h => h.1⟩
      simp [this]
    · refine ev_neg hf ?_
      refine ev_bind hE ?_
      refine ev_neg ?_ (ih (i + 1) (by omega))
      have : hb = false := by
        rw [Bool.eq_false_iff]
        intro h
        exact hf ((fitsB_iff s i).2 (hmem.1 h).2)
      simp [this]
theorem FnFaultSets : laws_FnFaultSets.Pure := by
  intro l h1 h2 hw
  refine Ev.rounds ?_
  unfold laws_FnFaultSets.f
  by_cases h : (l.length : Int) > 1048576
  · exact ev_pos h (ev_ret rfl)
  refine ev_neg h ?_
  obtain ⟨s, most, hd, hS, _⟩ := drawn l hw
  have h5 := hS.1
  refine ev_bind hd ?_
  dsimp only
  refine ev_bind (impl_setsE s (by omega) most) ?_
  refine ev_bind (spec_setsE s (by omega) most) ?_
  have hlen : (setsF s most).length ≤ 32 := by
    unfold setsF
    split
    · unfold setsFrom
      rw [List.length_map]
      exact Nat.le_trans (List.length_filter_le _ _) (by rw [List.length_range']; exact pw5 h5)
    · exact Nat.zero_le _
  refine ev_bind (a := true) ?_ ?_
  · unfold laws_sameInts.f
    exact ev_pos rfl (same_ints_l _ (by omega) (setsF s most).length 0 (by omega))
  refine ev_pos rfl ?_
  refine ev_bind (spec_synE s (by omega)) ?_
  by_cases hs : Syn s
  · exact ev_pos ((synB_iff s).2 hs) (sets_loop s hs most (pw s.length) 0 (by omega))
  · refine ev_neg (fun h => hs ((synB_iff s).1 h)) ?_
    rw [sets_none s hs]
    refine ev_pos rfl ?_
    exact ev_bindc alive_ok (ev_ret rfl)
end Go.Proofs.Ytgfchnfceomcbaa.Pure

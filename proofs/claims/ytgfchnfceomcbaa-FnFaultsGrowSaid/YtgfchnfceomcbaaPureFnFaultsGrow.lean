/- FaultSets: each set of at most so many is among those of at most one more, whatever is drawn: no condition. -/
import Derived.Test.YtgfchnfceomcbaaMDraw
import Derived.Test.YtgfchnfceomcbaaMSets
import Derived.Test.YtgfchnfceomcbaaMHas
import Derived.Test.YtgfchnfceomcbaaPx19
import Derived.Test.YtgfchnfceomcbaaPx18
import Derived.Test.YtgfchnfceomcbaaPx3
set_option linter.unusedVariables false
set_option linter.unusedSimpArgs false
namespace Go.Proofs.Ytgfchnfceomcbaa.Pure
open Go Go.RowKit Go.Proofs.Ytgfchnfceomcbaa.P Go.Proofs.YtgfchnfceomcbaaW.PrintWords Go.Proofs.YtgfchnfceomcbaaW.PrintLast Go.Proofs.Ytgfchnfceomcbaa.M
theorem alive_ok : laws_alive.f = some true := by decide +kernel
theorem drawn (l : List Int) (hw : ∀ x ∈ l, (Lit.int .u8 x).wf = true) : ∃ s most, Ev (fun k => spec_DrawFaultSets.f k l) (s, most) ∧ Shape s ∧ -100 ≤ most ∧ most ≤ 100 := by
  obtain ⟨b, hb, hB⟩ := openE l hw
  obtain ⟨s, q, hs, hq, hS⟩ := syndromeE b hB 0 (by omega) 12 (by omega)
  obtain ⟨r, hr, hr6, _⟩ := pickE b hB q (by omega) 6
  obtain ⟨r2, hr2, hr40, _⟩ := pickE b hB (q + 1) (by omega) 40
  have hr6 := hr6 (by omega)
  have hr40 := hr40 (by omega)
  have hq2 := tdiv_bd (r2 : Int) 39 (by omega) (by omega)
  refine ⟨s, wrap64 ((r : Int) - wrap64 (wrap64 (Int.tdiv (r2 : Int) 39) * 6)), ?_, hS, ?_⟩
  · unfold spec_DrawFaultSets.f
    refine ev_bindc hb ?_
    refine ev_bind hs ?_
    refine ev_bind hr ?_
    refine ev_bind hr2 ?_
    exact ev_ret rfl
  · show -100 ≤ wrap64 ((r : Int) - wrap64 (wrap64 (Int.tdiv (r2 : Int) 39) * 6)) ∧ wrap64 ((r : Int) - wrap64 (wrap64 (Int.tdiv (r2 : Int) 39) * 6)) ≤ 100
    have : Int.tdiv (r2 : Int) 39 ≤ 1 := by
      rw [Int.tdiv_eq_ediv_of_nonneg (by omega)]
      omega
    generalize Int.tdiv (r2 : Int) 39 = t at *
    rw [w64 (x := t) (by omega) (by omega), w64 (x := t * 6) (by omega) (by omega), w64 (by omega) (by omega)]
    omega
theorem sets_len (s : List (List Int)) (h5 : s.length ≤ 5) (most : Int) : (setsF s most).length ≤ 32 := by
  unfold setsF
  split
  · unfold setsFrom
    rw [List.length_map]
    exact Nat.le_trans (List.length_filter_le _ _) (by rw [List.length_range']; exact pw5 h5)
  · exact Nat.zero_le _
theorem sets_sub (s : List (List Int)) (most : Int) (x : Int) (h : x ∈ setsF s most) : x ∈ setsF s (most + 1) := by
  by_cases hs : Syn s
  · obtain ⟨m, rfl, a, b, c⟩ := (mem_sets s hs _ _).1 h
    exact (mem_sets s hs _ _).2 ⟨m, rfl, a, by omega, c⟩
  · rw [sets_none s hs] at h
    cases h
theorem sets_more (s : List (List Int)) (most : Int) : (setsF s most).length ≤ (setsF s (most + 1)).length := by
  unfold setsF
  split
  · unfold setsFrom
    rw [List.length_map, List.length_map, ← List.countP_eq_length_filter, ← List.countP_eq_length_filter]
    refine List.countP_mono_left fun m _ h => ?_
    unfold good at h ⊢
    rw [Bool.and_eq_true, decide_eq_true_eq] at h ⊢
    exact ⟨by omega, h.2⟩
  · exact Nat.le_refl _
theorem grow_loop (s : List (List Int)) (h5 : s.length ≤ 5) (most : Int) (hm : -100 ≤ most) (hm2 : most ≤ 100) : ∀ d i : Nat, i + d = (setsF s most).length → Ev (fun k => laws_FnFaultsGrow.l0 k s most (setsF s most) (setsF s (most + 1)) (i : Int)) true := by
  have l1 := sets_len s h5 most
  have l2 := sets_len s h5 (most + 1)
  intro d
  induction d with
  | zero =>
    intro i hi
    refine Ev.step (fun k => by rw [laws_FnFaultsGrow.l0]) ?_
    refine ev_neg (by omega) ?_
    rw [w64 (by omega) (by omega)]
    refine ev_bind (spec_setsE s (by omega) _) ?_
    have hle := sets_more s most
    by_cases h : ((setsF s (most + 1)).length : Int) = 0
    · refine ev_pos h ?_
      refine ev_pos (by omega) ?_
      exact ev_bindc alive_ok (ev_ret rfl)
    · refine ev_neg h ?_
      refine ev_bindc alive_ok ?_
      refine ev_pos rfl ?_
      refine ev_pos (by omega) (ev_ret ?_)
      exact decide_eq_true (by omega)
  | succ d ih =>
    intro i hi
    refine Ev.step (fun k => by rw [laws_FnFaultsGrow.l0]) ?_
    rw [w64s (by omega), rdN]
    refine ev_pos (by omega) ?_
    refine ev_pos (by omega) ?_
    obtain ⟨hb, hE, hiff⟩ := has_int (setsF s (most + 1)) ((setsF s most).getD i 0) (by omega)
    refine ev_bind hE ?_
    refine ev_pos (hiff.2 (sets_sub s most _ ?_)) (ih (i + 1) (by omega))
    rw [List.getD_eq_getElem?_getD, List.getElem?_eq_getElem (by omega)]
    exact List.getElem_mem _
theorem FnFaultsGrow : laws_FnFaultsGrow.Pure := by
  intro l h1 h2 hw
  refine Ev.rounds ?_
  unfold laws_FnFaultsGrow.f
  by_cases h : (l.length : Int) > 1048576
  · exact ev_pos h (ev_ret rfl)
  refine ev_neg h ?_
  obtain ⟨s, most, hd, hS, hm, hm2⟩ := drawn l hw
  have h5 := hS.1
  refine ev_bind hd ?_
  dsimp only
  refine ev_bind (impl_setsE s (by omega) most) ?_
  rw [w64 (by omega) (by omega)]
  refine ev_bind (impl_setsE s (by omega) (most + 1)) ?_
  exact grow_loop s h5 most hm hm2 (setsF s most).length 0 (by omega)
end Go.Proofs.Ytgfchnfceomcbaa.Pure

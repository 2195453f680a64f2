/- Rows are counted by their spies, whatever is drawn: no condition. -/
import Derived.Test.YtcaogllnbpmcgaaMAllFnSpyRows3
import Derived.Test.YtcaogllnbpmcgaaPx17
import Derived.Test.YtcaogllnbpmcgaaPx14
import Derived.Test.YtcaogllnbpmcgaaPx12
set_option linter.unusedVariables false
set_option linter.unusedSimpArgs false
namespace Go.Proofs.Ytcaogllnbpmcgaa.Pure
open Go Go.RowKit Go.Proofs.Ytcaogllnbpmcgaa.P Go.Proofs.YtcaogllnbpmcgaaW.PrintWords Go.Proofs.YtcaogllnbpmcgaaW.PrintLast Go.Proofs.Ytcaogllnbpmcgaa.M
theorem alive_okR : laws_alive.f = some true := by decide +kernel
theorem FnSpyRows : laws_FnSpyRows.Pure := by
  intro l0 hl h2 hw
  refine Ev.rounds ?_
  unfold laws_FnSpyRows.f
  by_cases hbig : (l0.length : Int) > 1048576
  · exact ev_pos hbig (ev_ret rfl)
  refine ev_neg hbig ?_
  obtain ⟨b, hb, hB⟩ := openE l0 hw
  obtain ⟨n, s, q, es, hn1, hn4, hsl, hss, hq⟩ := l20StoryE b hB 0 (by omega) 12
  obtain ⟨r1, e1, _⟩ := pickE b hB q (by omega) (n + 1)
  obtain ⟨r2, e2, _⟩ := pickE b hB (q + 1) (by omega) 40
  obtain ⟨left, hleft⟩ : ∃ left : Int, wrap64 ((r1 : Int) + (wrap64 ((wrap64 (Int.tdiv (r2 : Int) 39)) * 5))) = left := ⟨_, rfl⟩
  have ed : Ev (fun k => spec_DrawSpyRows.f k l0) (n, s, left) := by
    unfold spec_DrawSpyRows.f
    refine ev_bindc hb (ev_bind es ?_)
    dsimp only
    rw [w64 (x := n + 1) (by omega) (by omega)]
    refine ev_bind e1 (ev_bind e2 (ev_ret ?_))
    rw [hleft]
  refine ev_bind ed ?_
  dsimp only
  have h64 := hss.S64 (by omega)
  refine ev_bind (impl_spyRowsE n s (by omega) left) ?_
  refine ev_bind (spec_spyRowsE n (by omega) s h64 left) ?_
  refine ev_pos rfl ?_
  by_cases hS : StoryP n s ∧ 0 ≤ left ∧ left ≤ n
  · have hv : spyRowsF n s left = ((cntK (spB s) n.toNat [] left : Nat) : Int) := by
      unfold spyRowsF
      rw [if_pos hS]
    rw [hv]
    refine ev_neg (by omega) ?_
    obtain ⟨m, rfl⟩ : ∃ m : Nat, n = (m : Int) := ⟨n.toNat, by omega⟩
    obtain ⟨hS, hl0, hl1⟩ := hS
    rw [Int.toNat_natCast] at *
    refine ev_bind (impl_fewE (m : Int) s (by omega)) ?_
    refine ev_bind (impl_storyTableE m s hS) ?_
    refine ev_bind (impl_worldsE _ _) ?_
    refine ev_bind (impl_spyRowsE (m : Int) s (by omega) 0) ?_
    have hv0 : spyRowsF (m : Int) s 0 = ((castL (wl (tabS m s) m)).length : Int) := by
      unfold spyRowsF
      rw [if_pos ⟨hS, by omega, by omega⟩, Int.toNat_natCast, cnt_worlds m s hS, castL_len]
    have hvm : spyRowsF (m : Int) s (m : Int) = 1 := by
      unfold spyRowsF
      rw [if_pos ⟨hS, by omega, by omega⟩, Int.toNat_natCast, cnt_all (spB s) m [] (all_twoB m s hS)]
      rfl
    refine ev_pos (by rw [hv0, worldsS m (by omega) (by omega) s]) ?_
    refine ev_bind (impl_spyRowsE (m : Int) s (by omega) (m : Int)) ?_
    refine ev_pos hvm ?_
    have hf : fewF (m : Int) s = ((fewS m s : Nat) : Int) := by
      unfold fewF
      rw [if_pos hS, Int.toNat_natCast]
    rw [hf]
    obtain ⟨a, rfl⟩ : ∃ a : Nat, left = (a : Int) := ⟨left.toNat, by omega⟩
    by_cases hge : a ≥ fewS m s
    · refine ev_pos (by omega) ?_
      by_cases he : a = fewS m s
      · refine ev_pos (by omega) (ev_ret ?_)
        have := best_cnt m (spB s) (all_twoB m s hS)
        rw [he]
        exact decide_eq_true (by unfold fewS; omega)
      · exact ev_neg (by omega) (ev_ret rfl)
    · refine ev_neg (by omega) ?_
      have h0 := best_cnt0 m (spB s) a (show a < fewS m s by omega)
      refine ev_pos (by omega) ?_
      exact ev_neg (by omega) (ev_ret rfl)
  · have hv : spyRowsF n s left = -1 := by
      unfold spyRowsF
      rw [if_neg hS]
    rw [hv]
    refine ev_pos (by decide) ?_
    refine ev_pos rfl ?_
    exact ev_bindc alive_okR (ev_ret rfl)
end Go.Proofs.Ytcaogllnbpmcgaa.Pure

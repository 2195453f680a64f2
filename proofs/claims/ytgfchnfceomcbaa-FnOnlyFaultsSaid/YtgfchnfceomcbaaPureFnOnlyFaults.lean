/- OnlyFaults: at most one set of fewer than half of all units fits, and it is told exactly if there is one, whatever is drawn: no condition. -/
import Derived.Test.YtgfchnfceomcbaaMDraw
import Derived.Test.YtgfchnfceomcbaaMOnlyI
import Derived.Test.YtgfchnfceomcbaaMOnlyS
import Derived.Test.YtgfchnfceomcbaaPx23
import Derived.Test.YtgfchnfceomcbaaPx22
import Derived.Test.YtgfchnfceomcbaaPx3
set_option linter.unusedVariables false
set_option linter.unusedSimpArgs false
namespace Go.Proofs.Ytgfchnfceomcbaa.Pure
open Go Go.RowKit Go.Proofs.Ytgfchnfceomcbaa.P Go.Proofs.YtgfchnfceomcbaaW.PrintWords Go.Proofs.YtgfchnfceomcbaaW.PrintLast Go.Proofs.Ytgfchnfceomcbaa.M
theorem alive_ok : laws_alive.f = some true := by decide +kernel
theorem FnOnlyFaults : laws_FnOnlyFaults.Pure := by
  intro l h1 h2 hw
  refine Ev.rounds ?_
  unfold laws_FnOnlyFaults.f
  by_cases h : (l.length : Int) > 1048576
  · exact ev_pos h (ev_ret rfl)
  refine ev_neg h ?_
  obtain ⟨b, hb, hB⟩ := openE l hw
  obtain ⟨s, q, hs, hq, hS⟩ := syndromeE b hB 0 (by omega) 9 (by omega)
  have h5 := hS.1
  have hd : Ev (fun k => spec_DrawOnlyFaults.f k l) s := by
    unfold spec_DrawOnlyFaults.f
    refine ev_bindc hb ?_
    refine ev_bind hs ?_
    exact ev_ret rfl
  refine ev_bind hd ?_
  refine ev_bind (impl_onlyE s (by omega)) ?_
  refine ev_bind (spec_onlyE s (by omega)) ?_
  refine ev_pos rfl ?_
  refine Ev.step (fun k => by rw [laws_FnOnlyFaults.j0]) ?_
  refine ev_neg (by simp) ?_
  refine ev_bindc (impl_sure _) ?_
  refine ev_bind (impl_setsE s (by omega) _) ?_
  have hshort : (setsF s (sureM (s.length : Int))).length ≤ 1 := by
    by_cases h : Syn s
    · exact sets_short s h
    · rw [sets_none s h]
      exact Nat.zero_le _
  refine ev_neg (by omega) ?_
  refine Ev.step (fun k => by rw [laws_FnOnlyFaults.j1]) ?_
  unfold onlyF
  cases hx : setsF s (sureM (s.length : Int)) with
  | nil =>
    refine ev_neg (by simp) ?_
    refine ev_neg (by simp) ?_
    refine ev_pos rfl ?_
    exact ev_bindc alive_ok (ev_ret rfl)
  | cons x t =>
    rw [hx] at hshort
    have ht : t = [] := by
      cases t with
      | nil => rfl
      | cons y t => simp at hshort
    subst ht
    refine ev_neg (by simp) ?_
    refine ev_pos rfl ?_
    refine ev_bind (impl_fitsE s (by omega) x) ?_
    refine ev_pos ?_ ?_
    · have hs : Syn s := Classical.byContradiction fun h => by
        rw [sets_none s h] at hx
        cases hx
      obtain ⟨m, rfl, a, _, c⟩ := (mem_sets s hs _ x).1 (by rw [hx]; simp)
      rw [fitsFB_iff]
      exact ⟨hs, by omega, by omega, c⟩
    refine ev_pos (by simp) (ev_ret ?_)
    simp [rd]
end Go.Proofs.Ytgfchnfceomcbaa.Pure

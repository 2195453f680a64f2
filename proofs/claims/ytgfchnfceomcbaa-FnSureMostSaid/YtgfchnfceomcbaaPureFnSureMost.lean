/- SureMost: twice it is less than the units, and twice one more is at least the units, whatever is drawn: no condition. -/
import Derived.Test.YtgfchnfceomcbaaMSets
import Derived.Test.YtgfchnfceomcbaaMPick
import Derived.Test.YtgfchnfceomcbaaPx4
import Derived.Test.YtgfchnfceomcbaaPx3
import Derived.Test.YtgfchnfceomcbaaPx3
set_option linter.unusedVariables false
set_option linter.unusedSimpArgs false
namespace Go.Proofs.Ytgfchnfceomcbaa.Pure
open Go Go.RowKit Go.Proofs.Ytgfchnfceomcbaa.P Go.Proofs.YtgfchnfceomcbaaW.PrintWords Go.Proofs.YtgfchnfceomcbaaW.PrintLast Go.Proofs.Ytgfchnfceomcbaa.M
theorem alive_ok : laws_alive.f = some true := by decide +kernel
theorem FnSureMost : laws_FnSureMost.Pure := by
  intro l h1 h2 hw
  refine Ev.rounds ?_
  unfold laws_FnSureMost.f
  by_cases h : (l.length : Int) > 1048576
  · exact ev_pos h (ev_ret rfl)
  refine ev_neg h ?_
  obtain ⟨b, hb, hB⟩ := openE l hw
  obtain ⟨r, hr, hr8, _⟩ := pickE b hB 0 (by omega) 8
  have hr8 := hr8 (by omega)
  have hd : Ev (fun k => spec_DrawSureMost.f k l) ((r : Int) - 1) := by
    unfold spec_DrawSureMost.f
    refine ev_bindc hb ?_
    refine ev_bind hr ?_
    exact ev_ret (w64 (by omega) (by omega))
  refine ev_bind hd ?_
  refine ev_bindc (impl_sure _) ?_
  refine ev_bindc (spec_sure _) ?_
  refine ev_pos rfl ?_
  unfold sureM
  by_cases hn : 1 ≤ (r : Int) - 1 ∧ (r : Int) - 1 ≤ 5
  · rw [if_pos hn]
    have hq := Int.tdiv_eq_ediv_of_nonneg (a := (r : Int) - 1 - 1) (b := 2) (by omega)
    rw [hq, w64 (x := 2 * (((r : Int) - 1 - 1) / 2)) (by omega) (by omega), w64 (x := ((r : Int) - 1 - 1) / 2 + 1) (by omega) (by omega), w64 (x := 2 * (((r : Int) - 1 - 1) / 2 + 1)) (by omega) (by omega)]
    refine ev_neg (by omega) ?_
    refine ev_pos (by omega) ?_
    refine ev_pos (by omega) ?_
    exact ev_bindc alive_ok (ev_ret rfl)
  · rw [if_neg hn]
    refine ev_pos (by omega) ?_
    refine ev_pos rfl ?_
    exact ev_bindc alive_ok (ev_ret rfl)
end Go.Proofs.Ytgfchnfceomcbaa.Pure

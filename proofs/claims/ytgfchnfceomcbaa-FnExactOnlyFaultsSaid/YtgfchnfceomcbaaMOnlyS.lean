/- The reference's OnlyFaults tells the one set that fits. -/
import Derived.Test.YtgfchnfceomcbaaMSets
import Derived.Test.YtgfchnfceomcbaaPx21
set_option linter.unusedVariables false
set_option linter.unusedSimpArgs false
namespace Go.Proofs.Ytgfchnfceomcbaa.M
open Go Go.RowKit Go.Proofs.YtgfchnfceomcbaaW.PrintWords Go.Proofs.Ytgfchnfceomcbaa.P
theorem spec_onlyE (s : List (List Int)) (hn : s.length < 4611686018427387904) : Ev (fun k => spec_OnlyFaults.f k s) (onlyF s) := by
  unfold spec_OnlyFaults.f
  refine ev_bindc (spec_sure _) ?_
  refine ev_bind (spec_setsE s hn _) ?_
  have hs : (setsF s (sureM (s.length : Int))).length ≤ 1 := by
    by_cases h : Syn s
    · exact sets_short s h
    · rw [sets_none s h]
      exact Nat.zero_le _
  unfold onlyF
  cases h : setsF s (sureM (s.length : Int)) with
  | nil => exact ev_neg (by simp) (ev_ret rfl)
  | cons x l =>
    rw [h] at hs
    have hl : l = [] := by
      cases l with
      | nil => rfl
      | cons y l => simp at hs
    subst hl
    refine ev_pos rfl ?_
    refine ev_pos (by simp) ?_
    exact ev_ret rfl
end Go.Proofs.Ytgfchnfceomcbaa.M

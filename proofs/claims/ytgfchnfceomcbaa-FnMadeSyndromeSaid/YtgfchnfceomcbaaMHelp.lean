/- The laws' own helpers: lists compared, a number sought, numbers that ascend, bits counted, the fixed answer. -/
import Derived.Test.YtgfchnfceomcbaaMSyn
import Derived.Test.YtgfchnfceomcbaaPx15
import Derived.Test.YtgfchnfceomcbaaPx15
import Derived.Test.YtgfchnfceomcbaaPx3
set_option linter.unusedVariables false
set_option linter.unusedSimpArgs false
namespace Go.Proofs.Ytgfchnfceomcbaa.M
open Go Go.RowKit Go.Proofs.YtgfchnfceomcbaaW.PrintWords Go.Proofs.Ytgfchnfceomcbaa.P

theorem aliveE : laws_alive.f = some true := by decide +kernel
theorem same_ints_l (xs : List Int) (hn : xs.length < 4611686018427387904) : ∀ d i, i + d = xs.length → Ev (fun k => laws_sameInts.l0 k xs xs (i : Int)) true := by
  intro d
  induction d with
  | zero =>
    intro i hi
    refine Ev.step (fun k => by rw [laws_sameInts.l0]) ?_
    exact ev_neg (by omega) (ev_ret rfl)
  | succ d ih =>
    intro i hi
    refine Ev.step (fun k => by rw [laws_sameInts.l0]) ?_
    rw [w64s (by omega)]
    refine ev_pos (by omega) ?_
    refine ev_pos (by omega) ?_
    refine ev_pos (by omega) ?_
    exact ev_pos rfl (ih (i + 1) (by omega))
theorem same_ints (xs : List Int) (hn : xs.length < 4611686018427387904) : Ev (fun k => laws_sameInts.f k xs xs) true := by
  unfold laws_sameInts.f
  exact ev_pos rfl (same_ints_l xs hn xs.length 0 (by omega))
theorem same_rows_l (xs : List (List Int)) (hn : xs.length < 4611686018427387904) (hr : ∀ i, (xs.getD i []).length < 4611686018427387904) : ∀ d i, i + d = xs.length → Ev (fun k => laws_sameRows.l0 k xs xs (i : Int)) true := by
  intro d
  induction d with
  | zero =>
    intro i hi
    refine Ev.step (fun k => by rw [laws_sameRows.l0]) ?_
    exact ev_neg (by omega) (ev_ret rfl)
  | succ d ih =>
    intro i hi
    refine Ev.step (fun k => by rw [laws_sameRows.l0]) ?_
    rw [w64s (by omega), rdL]
    refine ev_pos (by omega) ?_
    refine ev_pos (by omega) ?_
    refine ev_pos (by omega) ?_
    refine ev_bind (same_ints _ (hr i)) ?_
    exact ev_pos rfl (ih (i + 1) (by omega))
theorem same_rows (xs : List (List Int)) (hn : xs.length < 4611686018427387904) (hr : ∀ i, (xs.getD i []).length < 4611686018427387904) : Ev (fun k => laws_sameRows.f k xs xs) true := by
  unfold laws_sameRows.f
  exact ev_pos rfl (same_rows_l xs hn hr xs.length 0 (by omega))
end Go.Proofs.Ytgfchnfceomcbaa.M

/- The program's LeastAsks returns what the reference's returns, for all arguments: no condition. -/
import Derived.Test.YtnmkifpifmdplaaMLeastS
import Derived.Test.YtnmkifpifmdplaaPx15
import Derived.Test.YtnmkifpifmdplaaPx16
set_option linter.unusedVariables false
set_option linter.unusedSimpArgs false
namespace Go.Proofs.Ytnmkifpifmdplaa.Pure
open Go Go.RowKit Go.Proofs.Ytnmkifpifmdplaa.P Go.Proofs.YtnmkifpifmdplaaW.PrintWords Go.Proofs.YtnmkifpifmdplaaW.PrintLast Go.Proofs.Ytnmkifpifmdplaa.M
theorem FnExactLeastAsks : laws_FnExactLeastAsks.Pure := by
  intro n t _ _
  refine Ev.rounds ?_
  unfold laws_FnExactLeastAsks.f
  refine ev_bind (spec_leastE n t) ?_
  refine ev_bindc (a := leastF n t) rfl ?_
  exact ev_pos rfl (ev_ret rfl)
end Go.Proofs.Ytnmkifpifmdplaa.Pure

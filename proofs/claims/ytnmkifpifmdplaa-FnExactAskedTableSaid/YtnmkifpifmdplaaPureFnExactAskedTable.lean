/- The program's AskedTable returns what the reference's returns, for all arguments: no condition. -/
import Derived.Test.YtnmkifpifmdplaaMAskSpec
import Derived.Test.YtnmkifpifmdplaaPx3
set_option linter.unusedVariables false
set_option linter.unusedSimpArgs false
namespace Go.Proofs.Ytnmkifpifmdplaa.Pure
open Go Go.RowKit Go.Proofs.Ytnmkifpifmdplaa.P Go.Proofs.YtnmkifpifmdplaaW.PrintWords Go.Proofs.YtnmkifpifmdplaaW.PrintLast Go.Proofs.Ytnmkifpifmdplaa.M
theorem FnExactAskedTable : laws_FnExactAskedTable.Pure := by
  intro n t who whom yes _ _ _ _
  refine Ev.rounds ?_
  unfold laws_FnExactAskedTable.f
  refine ev_bind (spec_askF n t who whom yes) ?_
  refine ev_bindc (impl_askF n t who whom yes) ?_
  exact ev_pos rfl (ev_ret rfl)
end Go.Proofs.Ytnmkifpifmdplaa.Pure

/- The program's KnownTeller returns what the reference's returns, for all arguments: no condition. -/
import Derived.Test.YtnmkifpifmdplaaMKnown
import Derived.Test.YtnmkifpifmdplaaPx3
set_option linter.unusedVariables false
set_option linter.unusedSimpArgs false
namespace Go.Proofs.Ytnmkifpifmdplaa.Pure
open Go Go.RowKit Go.Proofs.Ytnmkifpifmdplaa.P Go.Proofs.YtnmkifpifmdplaaW.PrintWords Go.Proofs.YtnmkifpifmdplaaW.PrintLast Go.Proofs.Ytnmkifpifmdplaa.M
theorem FnExactKnownTeller : laws_FnExactKnownTeller.Pure := by
  intro n t _ _
  refine Ev.rounds ?_
  unfold laws_FnExactKnownTeller.f
  refine ev_bind (spec_knownE n t) ?_
  refine ev_bind (impl_knownE n t) ?_
  exact ev_pos rfl (ev_ret rfl)
end Go.Proofs.Ytnmkifpifmdplaa.Pure

/- The program's LinksOk returns what the reference's returns, for all arguments: no condition. -/
import Derived.Test.YtnmkifpifmdplaaMExactLinks
import Derived.Test.YtnmkifpifmdplaaPx13
set_option linter.unusedVariables false
set_option linter.unusedSimpArgs false
namespace Go.Proofs.Ytnmkifpifmdplaa.Pure
open Go Go.RowKit Go.Proofs.Ytnmkifpifmdplaa.P Go.Proofs.YtnmkifpifmdplaaW.PrintWords Go.Proofs.YtnmkifpifmdplaaW.PrintLast Go.Proofs.Ytnmkifpifmdplaa.M
theorem FnExactLinksOk : laws_FnExactLinksOk.Pure := by
  intro n l _ hl
  refine Ev.rounds ?_
  unfold laws_FnExactLinksOk.f
  obtain ⟨r, hr, hb⟩ := sz_links l hl.1
  refine ev_bindc hr ?_
  by_cases h : r < 0
  · exact ev_pos h (ev_ret rfl)
  have b1 := hb (by omega)
  have b2 : (l.map toL).length ≤ 1048576 := by simpa using b1
  refine ev_neg h ?_
  refine ev_bind (to_links l b1) ?_
  refine ev_bind (spec_linksE n _ (by omega)) ?_
  refine ev_bind (to_links l b1) ?_
  refine ev_bind (impl_linksE n _ (by omega)) ?_
  refine ev_neg (by simp) ?_
  refine ev_bind (to_links l b1) ?_
  refine ev_bind (eq_links _ b2) ?_
  exact ev_pos rfl (ev_ret rfl)
end Go.Proofs.Ytnmkifpifmdplaa.Pure

/- The program's MajorityTable returns what the reference's returns, for all arguments: no condition. -/
import Derived.Test.YtnmkifpifmdplaaMTabDraw
import Derived.Test.YtnmkifpifmdplaaPx7
import Derived.Test.YtnmkifpifmdplaaPx8
set_option linter.unusedVariables false
set_option linter.unusedSimpArgs false
namespace Go.Proofs.Ytnmkifpifmdplaa.M
open Go Go.RowKit Go.Proofs.YtnmkifpifmdplaaW.PrintWords Go.Proofs.Ytnmkifpifmdplaa.P
theorem majTab : M.tabN (M.majP 1) (M.pw 1) = 2 ∧ M.tabN (M.majP 2) (M.pw 2) = 8 ∧ M.tabN (M.majP 3) (M.pw 3) = 232 ∧ M.tabN (M.majP 4) (M.pw 4) = 59520 := by
  decide +kernel
/-- MajorityTable, as both tell it. -/
def majF (n : Int) : Int := if n = 1 then 2 else if n = 2 then 8 else if n = 3 then 232 else if n = 4 then 59520 else -1
theorem majF_out (n : Int) (h : ¬ (1 ≤ n ∧ n ≤ 4)) : majF n = -1 := by
  unfold majF
  rw [if_neg (by omega), if_neg (by omega), if_neg (by omega), if_neg (by omega)]
theorem impl_majF (n : Int) : impl_MajorityTable.f n = some (majF n) := by
  unfold impl_MajorityTable.f
  by_cases h : 1 ≤ n ∧ n ≤ 4
  · rw [if_pos h]
    obtain ⟨e1, e2, e3, e4⟩ := majTab
    rcases (by omega : n = 1 ∨ n = 2 ∨ n = 3 ∨ n = 4) with rfl | rfl | rfl | rfl
    · exact congrArg (fun m : Nat => some (m : Int)) e1
    · exact congrArg (fun m : Nat => some (m : Int)) e2
    · exact congrArg (fun m : Nat => some (m : Int)) e3
    · exact congrArg (fun m : Nat => some (m : Int)) e4
  · rw [if_neg h, majF_out n h]
theorem spec_majF (n : Int) : Ev (fun k => spec_MajorityTable.f k n) (majF n) := by
  by_cases h : 1 ≤ n ∧ n ≤ 4
  · have h1 := fun (n : Int) (v : Int) (e : spec_MajorityTable.f 60 n = some v) => Ev.of (g := fun k => spec_MajorityTable.f k n) (fun k => spec_MajorityTable.mono n k) e
    rcases (by omega : n = 1 ∨ n = 2 ∨ n = 3 ∨ n = 4) with rfl | rfl | rfl | rfl
    · exact h1 1 2 (by decide +kernel)
    · exact h1 2 8 (by decide +kernel)
    · exact h1 3 232 (by decide +kernel)
    · exact h1 4 59520 (by decide +kernel)
  · unfold spec_MajorityTable.f
    refine ev_bindc (l1In n 1 4) ?_
    refine ev_neg (fun h' => h (of_decide_eq_true h')) (ev_ret (majF_out n h).symm)
end Go.Proofs.Ytnmkifpifmdplaa.M
namespace Go.Proofs.Ytnmkifpifmdplaa.Pure
open Go Go.RowKit Go.Proofs.Ytnmkifpifmdplaa.P Go.Proofs.YtnmkifpifmdplaaW.PrintWords Go.Proofs.YtnmkifpifmdplaaW.PrintLast Go.Proofs.Ytnmkifpifmdplaa.M
theorem FnExactMajorityTable : laws_FnExactMajorityTable.Pure := by
  intro n _
  refine Ev.rounds ?_
  unfold laws_FnExactMajorityTable.f
  refine ev_bind (spec_majF n) ?_
  refine ev_bindc (impl_majF n) ?_
  exact ev_pos rfl (ev_ret rfl)
end Go.Proofs.Ytnmkifpifmdplaa.Pure

/- Written by our program myprint.py out of Lean's print of the translation: Go's function comes to just the answer of the Lean function told here. -/
import Derived.Test.YtnmkifpifmdplaaPx0
import Derived.Test.YtnmkifpifmdplaaPx1
import Derived.Test.YtnmkifpifmdplaaMLeastW
namespace Go.Proofs.Ytnmkifpifmdplaa.P
open Go.RowKit Go.Proofs.YtnmkifpifmdplaaW.PrintWords Go.Proofs.YtnmkifpifmdplaaW.PrintLast Go.Proofs.YtnmkifpifmdplaaW.PrintMore
attribute [local go_sem] max2_int min2_int max_two min_two max_three min_three max_four min_four   -- for this text's walks alone
set_option linter.unusedVariables false
set_option linter.unusedSimpArgs false

-- HAND rounds=0 making=1
-- IMPORTS: Derived.Test.YtnmkifpifmdplaaMLeastW
/-! ### impl_LeastAsks: function 28 -/
noncomputable def impl_LeastAsks.f (a0 a1 : Int) : Option Int := some (M.leastF a0 a1)
set_option maxHeartbeats 4000000 in
set_option maxRecDepth 100000 in
theorem impl_LeastAsks.calls (a0 a1 : Int) (r : Int) (w : World) (h : impl_LeastAsks.f a0 a1 = some r) :
  Calls Try.prog 28 #[.int .i64 a0, .int .i64 a1] w fun e w' => e = .returned (.int .i64 r) ∧ Below w.heap.size w w' := by
 have hr := Option.some.inj h
 clear h
 have hT := M.impl_tabOk a0 a1
 unfold M.leastF at hr
 by_cases hok : M.TabOk a0 a1
 ·rw [if_pos hok] at hr
  rw [decide_eq_true hok] at hT
  have hT' := Lib.hid hT
  clear hT
  obtain ⟨t1, t4, t0, t2⟩ := hok
  obtain ⟨n, rfl⟩ : ∃ m : Nat, a0 = (m : Int) := ⟨a0.toNat, by omega⟩
  rw [Int.toNat_natCast] at hr t2
  have hr' := Lib.hid hr
  clear hr
  have hp := M.popW_le n a1.toNat
  have hp4 := M.pw4 (n := n) (by omega)
  have hcap : 0 + M.capN 16 < 9223372036854775807 := by rw [M.capN_16]; decide
  have HL := fun (W : World) (B : Nat) (hm : M.Has n B 0 (.map []) W) => M.least_calls n (by omega) (by omega) 16 a1 0 (.map []) W B t0 (by omega) (by omega) hm hcap
  have hmm := @run_makeMap Try.prog
  go_enter Try.func28, Try.ntmps28
  go_wp2_with fail
  refine (impl_TableOk.calls (n : Int) a1 true _ hT'.out).mono ?_
  rintro e w' ⟨rfl, ⟨nd, rfl⟩⟩
  go_wp2_with fail
  refine (HL _ _ ⟨World.ownsMap_made _ _ _ _, M.memo_empty n⟩).mono ?_
  rintro e w' ⟨rfl, k', D', hm, hk, hg⟩
  go_wp2_with fail
  go_ret
  refine ⟨by rw [← hr'.out]; rfl, ?_⟩
  exact Below.grown (by first | exact (below_alloc (pw_below_drewN (Below.refl _ _) _) _) | exact pw_below_drewN (below_alloc (Below.refl _ _) _) _) hg (by simp) (fun j hj => by cases hj; simp)
 ·rw [if_neg hok] at hr
  subst hr
  rw [decide_eq_false hok] at hT
  have hT' := Lib.hid hT
  clear hT hok
  go_enter Try.func28, Try.ntmps28
  go_wp2_with (go_at_call 23; (refine (impl_TableOk.calls a0 a1 false _ hT'.out).mono ?_); rintro e w' ⟨rfl, ⟨nd, rfl⟩⟩)
  go_ret
  exact ⟨rfl, pw_below_drewN (Below.refl _ _) _⟩

end Go.Proofs.Ytnmkifpifmdplaa.P

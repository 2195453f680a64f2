/- Written by our program myprint.py out of Lean's print of the translation: Go's function comes to just the answer of the Lean function told here. -/
import Derived.Test.YtcaogllnbpmcgaaPx0
import Derived.Test.YtcaogllnbpmcgaaMAllFnFewestSpies2
import Derived.Laws.EntriesVeiled
namespace Go.Proofs.Ytcaogllnbpmcgaa.P
open Go.RowKit Go.Proofs.YtcaogllnbpmcgaaW.PrintWords Go.Proofs.YtcaogllnbpmcgaaW.PrintLast Go.Proofs.YtcaogllnbpmcgaaW.PrintMore
attribute [local go_sem] max2_int min2_int max_two min_two max_three min_three max_four min_four   -- for this text's walks alone
set_option linter.unusedVariables false
set_option linter.unusedSimpArgs false

-- HAND rounds=0 making=1
-- IMPORTS: Derived.Test.YtcaogllnbpmcgaaMSpyTry Derived.Laws.EntriesVeiled
/-! ### impl_spyRows: function 53 -/
noncomputable def impl_spyRows.f (a0 : Int) (l1 : List (S38)) (a2 : Int) : Option Int := @ite _ (M.StoryP a0 l1 ∧ 0 ≤ a2 ∧ a2 ≤ 1000) (Classical.propDecidable _) (some ((M.cntK (M.spB l1) a0.toNat [] a2 : Nat) : Int)) none
set_option maxHeartbeats 8000000 in
set_option maxRecDepth 100000 in
theorem impl_spyRows.calls (a0 : Int) (A1 : Option Addr) (c1 : Nat) (l1 : List (S38)) (a2 : Int) (r : Int) (w : World) (hr1 : Kd.C k38 w A1 l1.length l1) (hc1 : l1.length ≤ c1) (h : impl_spyRows.f a0 l1 a2 = some r) :
  Calls Try.prog 53 #[.int .i64 a0, .slice A1 l1.length c1, .int .i64 a2] w fun e w' => e = .returned (.int .i64 r) ∧ Below w.heap.size w w' := by
 unfold impl_spyRows.f at h
 by_cases hS : M.StoryP a0 l1 ∧ 0 ≤ a2 ∧ a2 ≤ 1000
 ·rw [if_pos hS] at h
  have hr := Option.some.inj h
  have h1 := hS.1.2.1
  have h6 := hS.1.2.2
  have hp2 := hS.2
  obtain ⟨n, rfl⟩ : ∃ m : Nat, a0 = (m : Int) := ⟨a0.toNat, by omega⟩
  rw [Int.toNat_natCast] at hr
  have HR := Lib.hid hr
  have HC := Lib.hid hr1
  clear hr hS h hr1
  obtain ⟨i0, hi, hz0, hz1, hz2⟩ := info_parts (show (Try.prog.info? 3).map (fun i => (i.zero, i.size, i.bytes)) = some (some (.int .i64 0), 1, 8) by kernel_rfl)
  have hmk : ∀ W : World, (Instr.makeSlice 42 (.int .i64 (n : Int)) (.int .i64 (n : Int))).run Try.prog W = .ok (.slice (some ⟨W.heap.size, 0, none⟩) n n) (W.alloc (.cells (madeCells #[.int .i64 0] n) 3)) := fun W => by
   have := run_makeSlice (P := Try.prog) (w := W) 42 3 i0 (.int .i64 0) Try.underlying42 hi hz0 .i64 .i64 (n : Int) (n : Int) (by omega) (by omega) (by rw [hz1, Int.toNat_natCast]; omega) (by rw [hz2]; omega) (by omega)
   rw [hz1, Int.toNat_natCast, Nat.mul_one] at this
   exact this
  clear hi hz0 hz1 hz2 i0
  have E := M.Env.start (n := n) (s := l1) (A := A1) (c := c1) (by omega) w
  have hp := M.p3_le (n := n) (by omega)
  have T := Lib.hid (M.try_calls (by omega) HC.out hc1 h6 n [] a2 0 _ _ (by simp) (by omega) (by omega) (by omega) E rfl)
  clear E hp
  go_enter Try.func53, Try.ntmps53
  go_upto_region 5 with (fail)
  go_wp2_with (go_at_call 85; (refine T.out.mono ?_); rintro e w3 ⟨rfl, ks3, E3, ht3, hk3⟩; have cm := cell_of_one E3.hm; rw [Nat.zero_add, HR.out] at cm)
  go_ret
  exact ⟨rfl, E3.hb⟩
 ·rw [if_neg hS] at h
  cases h

end Go.Proofs.Ytcaogllnbpmcgaa.P

/- Written by our program myprint.py out of Lean's print of the translation: Go's function comes to just the answer of the Lean function told here. -/
import Derived.Test.YtnmkifpifmdplaaPx0
import Derived.Test.YtnmkifpifmdplaaPx1
import Derived.Test.YtnmkifpifmdplaaMMajLit
namespace Go.Proofs.Ytnmkifpifmdplaa.P
open Go.RowKit Go.Proofs.YtnmkifpifmdplaaW.PrintWords Go.Proofs.YtnmkifpifmdplaaW.PrintLast Go.Proofs.YtnmkifpifmdplaaW.PrintMore
attribute [local go_sem] max2_int min2_int max_two min_two max_three min_three max_four min_four   -- for this text's walks alone
set_option linter.unusedVariables false
set_option linter.unusedSimpArgs false

-- HAND rounds=0 making=1
-- IMPORTS: Derived.Test.YtnmkifpifmdplaaMMajLit
/-! ### impl_MajorityTable: function 19 -/
def impl_MajorityTable.f (a0 : Int) : Option Int := some (if 1 ≤ a0 ∧ a0 ≤ 4 then ((M.tabN (M.majP a0) (M.pw a0.toNat) : Nat) : Int) else -1)
theorem impl_MajorityTable.below_of_drewN {W w' : World} {n : Nat} (h : Below (W.drewN n).heap.size (W.drewN n) w') : Below W.heap.size W w' := (pw_below_drewN (Below.refl _ _) n).trans (by simpa using h)
set_option maxHeartbeats 4000000 in
set_option maxRecDepth 100000 in
theorem impl_MajorityTable.calls (a0 : Int) (r : Int) (w : World) (h : impl_MajorityTable.f a0 = some r) :
    Calls Try.prog 19 #[.int .i64 a0] w fun e w' => e = .returned (.int .i64 r) ∧ Below w.heap.size w w' := by
  have hr := Option.some.inj h
  clear h
  have hmf : ∀ (fn : Fn) (first cap : Array Value) (w : World), (Instr.makeFunc fn first cap).run Try.prog w = .ok (.func fn first cap) w := fun _ _ _ _ => rfl
  have hP := M.peopleOk a0
  by_cases hok : 1 ≤ a0 ∧ a0 ≤ 4
  · rw [if_pos hok] at hr
    rw [decide_eq_true hok] at hP
    have hP' := Lib.hid hP
    clear hP
    have hr' := Lib.hid hr
    clear hr
    have hp : a0 = 1 ∨ a0 = 2 ∨ a0 = 3 ∨ a0 = 4 := by omega
    have HC : ∀ (nd : Nat) (i : Int) (W : World), 0 ≤ i → i < 2 ^ a0.toNat → Below ((w.alloc (.cells #[.int .i64 a0] 3)).drewN nd).heap.size ((w.alloc (.cells #[.int .i64 a0] 3)).drewN nd) W →
        Calls Try.prog 52 #[.int .i64 i, .pointer (some ⟨w.heap.size, 0, none⟩)] W fun e W' => e = .returned (.bool (M.majP a0 i.toNat)) ∧ Below W.heap.size W W' := fun nd i W h0 h1 hb => by
      have hs : ((w.alloc (.cells #[.int .i64 a0] 3)).drewN nd).heap.size = w.heap.size + 1 := by simp
      obtain ⟨t, ht, ht5⟩ := M.majOk a0 hp i h0 h1
      have := M.maj_lit a0 i t hp ht5 ⟨w.heap.size, 0, none⟩ W ht (by
        have hcell : W.cell? ⟨w.heap.size, 0, none⟩ = (w.alloc (.cells #[.int .i64 a0] 3)).cell? ⟨w.heap.size, 0, none⟩ := hb.cell (by rw [hs]; simp)
        rw [hcell, World.cell?_alloc_at _ _ _ _ rfl]
        rfl)
      have e : M.majP a0 i.toNat = decide (a0 < 2 * t) := by
        unfold M.majP
        rw [Int.toNat_of_nonneg h0, ht]
        rfl
      rw [e]
      exact this
    have HT := fun nd => M.tableBy_MajorityTable (.pointer (some ⟨w.heap.size, 0, none⟩)) a0 hp (M.majP a0) _ (HC nd)
    go_enter Try.func19, Try.ntmps19
    go_wp2_with (first | (go_at_call 51; (refine (impl_peopleOk.calls a0 true _ hP'.out).mono ?_); rintro e w' ⟨rfl, ⟨nd, rfl⟩⟩) | (go_at_call 47; (refine (HT _).mono ?_); rintro e w' ⟨rfl, hb⟩))
    go_ret
    refine ⟨by rw [← hr'.out]; rfl, below_then ((Below.refl w.heap.size w).alloc (Nat.le_refl _) _) (by simp) (impl_MajorityTable.below_of_drewN hb)⟩
  · rw [if_neg hok] at hr
    subst hr
    rw [decide_eq_false hok] at hP
    have hP' := Lib.hid hP
    clear hP
    go_enter Try.func19, Try.ntmps19
    go_wp2_with (go_at_call 51; (refine (impl_peopleOk.calls a0 false _ hP'.out).mono ?_); rintro e w' ⟨rfl, ⟨nd, rfl⟩⟩)
    go_ret
    exact ⟨rfl, pw_below_drewN ((Below.refl w.heap.size w).alloc (Nat.le_refl _) _) _⟩

end Go.Proofs.Ytnmkifpifmdplaa.P

/- Written by our program myprint.py out of Lean's print of the translation: Go's function comes to just the answer of the Lean function told here. -/
import Derived.Test.YtnmkifpifmdplaaPx0
import Derived.Test.YtnmkifpifmdplaaPx1
import Derived.Test.YtnmkifpifmdplaaMAskedLit
namespace Go.Proofs.Ytnmkifpifmdplaa.P
open Go.RowKit Go.Proofs.YtnmkifpifmdplaaW.PrintWords Go.Proofs.YtnmkifpifmdplaaW.PrintLast Go.Proofs.YtnmkifpifmdplaaW.PrintMore
attribute [local go_sem] max2_int min2_int max_two min_two max_three min_three max_four min_four   -- for this text's walks alone
set_option linter.unusedVariables false
set_option linter.unusedSimpArgs false

-- HAND rounds=0 making=1
-- IMPORTS: Derived.Test.YtnmkifpifmdplaaMAskedLit
/-! ### impl_AskedTable: function 15 -/
def impl_AskedTable.Ok (a0 a1 a2 a3 : Int) : Prop := M.TabOk a0 a1 ∧ 0 ≤ a2 ∧ a2 < a0 ∧ 0 ≤ a3 ∧ a3 < a0
instance (a0 a1 a2 a3 : Int) : Decidable (impl_AskedTable.Ok a0 a1 a2 a3) := by unfold impl_AskedTable.Ok; infer_instance
def impl_AskedTable.same (who whom : Nat) (yes : Bool) (w : Nat) : Bool := (M.bitN w who == M.bitN w whom) == yes
def impl_AskedTable.f (a0 a1 a2 a3 : Int) (a4 : Bool) : Option Int := some (if impl_AskedTable.Ok a0 a1 a2 a3 then ((a1.toNat &&& M.tabN (impl_AskedTable.same a2.toNat a3.toNat a4) (M.pw a0.toNat) : Nat) : Int) else -1)
theorem impl_AskedTable.three (w : World) (o1 o2 o3 : Obj) : Below w.heap.size w (((w.alloc o1).alloc o2).alloc o3) := (((Below.refl _ _).alloc (Nat.le_refl _) o1).alloc (by simp) o2).alloc (by simp; omega) o3
theorem below_of_drewN {W w' : World} {n : Nat} (h : Below (W.drewN n).heap.size (W.drewN n) w') : Below W.heap.size W w' := (pw_below_drewN (Below.refl _ _) n).trans (by simpa using h)
set_option maxHeartbeats 4000000 in
set_option maxRecDepth 100000 in
theorem impl_AskedTable.calls (a0 a1 a2 a3 : Int) (a4 : Bool) (r : Int) (w : World) (h : impl_AskedTable.f a0 a1 a2 a3 a4 = some r) :
  Calls Try.prog 15 #[.int .i64 a0, .int .i64 a1, .int .i64 a2, .int .i64 a3, .bool a4] w fun e w' => e = .returned (.int .i64 r) ∧ Below w.heap.size w w' := by
 have hr := Option.some.inj h
 clear h
 have hmf : ∀ (fn : Fn) (first cap : Array Value) (w : World), (Instr.makeFunc fn first cap).run Try.prog w = .ok (.func fn first cap) w := fun _ _ _ _ => rfl
 have hT := M.impl_tabOk a0 a1
 by_cases hok : impl_AskedTable.Ok a0 a1 a2 a3
 ·rw [if_pos hok] at hr
  obtain ⟨ht, b0, b1, b2, b3⟩ := hok
  obtain ⟨t1, t4, t0, t2⟩ := id ht
  rw [decide_eq_true ht] at hT
  have hT' := Lib.hid hT
  clear hT
  obtain ⟨who, rfl⟩ : ∃ m : Nat, a2 = (m : Int) := ⟨a2.toNat, by omega⟩
  obtain ⟨whom, rfl⟩ : ∃ m : Nat, a3 = (m : Int) := ⟨a3.toNat, by omega⟩
  have hr' := Lib.hid hr
  clear hr
  have HC : ∀ (nd : Nat) (i : Int) (W : World), 0 ≤ i → i < 2 ^ a0.toNat → Below ((((w.alloc (.cells #[.int .i64 (who : Int)] 3)).alloc (.cells #[.int .i64 (whom : Int)] 3)).alloc (.cells #[.bool a4] 4)).drewN nd).heap.size ((((w.alloc (.cells #[.int .i64 (who : Int)] 3)).alloc (.cells #[.int .i64 (whom : Int)] 3)).alloc (.cells #[.bool a4] 4)).drewN nd) W →
    Calls Try.prog 48 #[.int .i64 i, .pointer (some ⟨w.heap.size, 0, none⟩), .pointer (some ⟨w.heap.size + 1, 0, none⟩), .pointer (some ⟨w.heap.size + 2, 0, none⟩)] W fun e W' => e = .returned (.bool (impl_AskedTable.same who whom a4 i.toNat)) ∧ Below W.heap.size W W' := fun nd i W h0 h1 hb => by
   have hs : ((((w.alloc (.cells #[.int .i64 (who : Int)] 3)).alloc (.cells #[.int .i64 (whom : Int)] 3)).alloc (.cells #[.bool a4] 4)).drewN nd).heap.size = w.heap.size + 3 := by simp
   have hcell : ∀ p : Addr, p.block < w.heap.size + 3 → W.cell? p = (((w.alloc (.cells #[.int .i64 (who : Int)] 3)).alloc (.cells #[.int .i64 (whom : Int)] 3)).alloc (.cells #[.bool a4] 4)).cell? p := fun p hp => hb.cell (by rw [hs]; exact hp)
   have h16 : (2 : Int) ^ a0.toNat ≤ 16 := by
    have : (2 : Nat) ^ a0.toNat ≤ 2 ^ 4 := Nat.pow_le_pow_right (by decide) (by omega)
    exact_mod_cast this
   refine M.asked_lit i who whom a4 _ _ _ W h0 (by omega) (by omega) (by omega) ?_ ?_ ?_
   ·rw [hcell _ (by simp), World.cell?_alloc_past _ _ _ (by simp; omega), World.cell?_alloc_past _ _ _ (by simp), World.cell?_alloc_at _ _ _ _ rfl]
    rfl
   ·rw [hcell _ (by simp), World.cell?_alloc_past _ _ _ (by simp), World.cell?_alloc_at _ _ _ _ (by simp)]
    rfl
   ·rw [hcell _ (by simp), World.cell?_alloc_at _ _ _ _ (by simp)]
    rfl
  have HT := fun nd => M.tableBy_AskedTable (.pointer (some ⟨w.heap.size, 0, none⟩)) (.pointer (some ⟨w.heap.size + 1, 0, none⟩)) (.pointer (some ⟨w.heap.size + 2, 0, none⟩)) a0 (by omega) (impl_AskedTable.same who whom a4) _ (HC nd)
  go_enter Try.func15, Try.ntmps15
  go_wp2_with (first | (go_at_call 23; (refine (impl_TableOk.calls a0 a1 true _ hT'.out).mono ?_); rintro e w' ⟨rfl, ⟨nd, rfl⟩⟩) | (go_at_call 47; (refine (HT _).mono ?_); rintro e w' ⟨rfl, hb⟩))
  go_ret
  obtain ⟨m, hm⟩ : ∃ m : Nat, a1 = (m : Int) := ⟨a1.toNat, by omega⟩
  have hp := M.ppw (n := a0.toNat) (by omega)
  have hl := M.tabN_lt (impl_AskedTable.same who whom a4) (M.pw a0.toNat)
  refine ⟨?_, below_then (impl_AskedTable.three w _ _ _) (by simp; omega) (below_of_drewN hb)⟩
  rw [← hr'.out, hm, Int.toNat_natCast, Int.toNat_natCast, Int.toNat_natCast]
  show Ending.returned (Value.int .i64 _) = Ending.returned (Value.int .i64 _)
  rw [M.and_nat16 m _ (by omega) (by omega)]
 ·rw [if_neg hok] at hr
  subst hr
  have end_ : ∀ (W : World) (o1 o2 o3 : Obj) (n : Nat), Below W.heap.size W ((((W.alloc o1).alloc o2).alloc o3).drewN n) := fun W o1 o2 o3 n => pw_below_drewN (impl_AskedTable.three W o1 o2 o3) n
  by_cases ht : M.TabOk a0 a1
  ·rw [decide_eq_true ht] at hT
   have hT' := Lib.hid hT
   clear hT
   have hq : a2 < 0 ∨ (0 ≤ a2 ∧ a0 ≤ a2) ∨ (0 ≤ a2 ∧ a2 < a0 ∧ a3 < 0) ∨ (0 ≤ a2 ∧ a2 < a0 ∧ 0 ≤ a3 ∧ a0 ≤ a3) := by
    refine Classical.byContradiction fun h => hok ⟨ht, ?_, ?_, ?_, ?_⟩ <;> omega
   clear hok ht
   rcases hq with q0 | ⟨q0, q1⟩ | ⟨q0, q1, q2⟩ | ⟨q0, q1, q2, q3⟩
   all_goals
    go_enter Try.func15, Try.ntmps15
    go_wp2_with (go_at_call 23; (refine (impl_TableOk.calls a0 a1 true _ hT'.out).mono ?_); rintro e w' ⟨rfl, ⟨nd, rfl⟩⟩)
    go_ret
    exact ⟨rfl, end_ _ _ _ _ _⟩
  ·rw [decide_eq_false ht] at hT
   have hT' := Lib.hid hT
   clear hT hok ht
   go_enter Try.func15, Try.ntmps15
   go_wp2_with (go_at_call 23; (refine (impl_TableOk.calls a0 a1 false _ hT'.out).mono ?_); rintro e w' ⟨rfl, ⟨nd, rfl⟩⟩)
   go_ret
   exact ⟨rfl, end_ _ _ _ _ _⟩

end Go.Proofs.Ytnmkifpifmdplaa.P

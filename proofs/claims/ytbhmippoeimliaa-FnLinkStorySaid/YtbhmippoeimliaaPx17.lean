/- Written by our program myprint.py out of Lean's print of the translation: Go's function comes to just the answer of the Lean function told here. -/
import Derived.Test.YtbhmippoeimliaaPx0
import Derived.Test.YtbhmippoeimliaaPx5
import Derived.Test.YtbhmippoeimliaaMOppLit
namespace Go.Proofs.Ytbhmippoeimliaa.P
open Go.RowKit Go.Proofs.YtbhmippoeimliaaW.PrintWords Go.Proofs.YtbhmippoeimliaaW.PrintLast Go.Proofs.YtbhmippoeimliaaW.PrintMore
attribute [local go_sem] max2_int min2_int max_two min_two max_three min_three max_four min_four   -- for this text's walks alone
set_option linter.unusedVariables false
set_option linter.unusedSimpArgs false

-- HAND rounds=0 making=1
-- IMPORTS: Derived.Test.YtbhmippoeimliaaMOppLit
/-! ### impl_OppositeTable: function 34 -/
def impl_OppositeTable.f (a0 a1 : Int) : Option Int := some (if M.TabOk a0 a1 then ((M.tabN (M.oppP a0.toNat a1.toNat) (M.pw a0.toNat) : Nat) : Int) else -1)
theorem impl_OppositeTable.below_of_drewN {W w' : World} {n : Nat} (h : Below (W.drewN n).heap.size (W.drewN n) w') : Below W.heap.size W w' := (pw_below_drewN (Below.refl _ _) n).trans (by simpa using h)
theorem impl_OppositeTable.two (w : World) (o1 o2 : Obj) : Below w.heap.size w ((w.alloc o1).alloc o2) := ((Below.refl _ _).alloc (Nat.le_refl _) o1).alloc (by simp) o2
theorem impl_OppositeTable.cases_ (a0 i : Int) (hp : a0 = 1 ∨ a0 = 2 ∨ a0 = 3 ∨ a0 = 4) (h0 : 0 ≤ i) (h1 : i < 2 ^ a0.toNat) : a0 = 1 ∧ i = 0 ∧ M.pw a0.toNat - 1 - i.toNat = 1 ∨ a0 = 1 ∧ i = 1 ∧ M.pw a0.toNat - 1 - i.toNat = 0 ∨ a0 = 2 ∧ i = 0 ∧ M.pw a0.toNat - 1 - i.toNat = 3 ∨ a0 = 2 ∧ i = 1 ∧ M.pw a0.toNat - 1 - i.toNat = 2 ∨ a0 = 2 ∧ i = 2 ∧ M.pw a0.toNat - 1 - i.toNat = 1 ∨ a0 = 2 ∧ i = 3 ∧ M.pw a0.toNat - 1 - i.toNat = 0 ∨ a0 = 3 ∧ i = 0 ∧ M.pw a0.toNat - 1 - i.toNat = 7 ∨ a0 = 3 ∧ i = 1 ∧ M.pw a0.toNat - 1 - i.toNat = 6 ∨ a0 = 3 ∧ i = 2 ∧ M.pw a0.toNat - 1 - i.toNat = 5 ∨ a0 = 3 ∧ i = 3 ∧ M.pw a0.toNat - 1 - i.toNat = 4 ∨ a0 = 3 ∧ i = 4 ∧ M.pw a0.toNat - 1 - i.toNat = 3 ∨ a0 = 3 ∧ i = 5 ∧ M.pw a0.toNat - 1 - i.toNat = 2 ∨ a0 = 3 ∧ i = 6 ∧ M.pw a0.toNat - 1 - i.toNat = 1 ∨ a0 = 3 ∧ i = 7 ∧ M.pw a0.toNat - 1 - i.toNat = 0 ∨ a0 = 4 ∧ i = 0 ∧ M.pw a0.toNat - 1 - i.toNat = 15 ∨ a0 = 4 ∧ i = 1 ∧ M.pw a0.toNat - 1 - i.toNat = 14 ∨ a0 = 4 ∧ i = 2 ∧ M.pw a0.toNat - 1 - i.toNat = 13 ∨ a0 = 4 ∧ i = 3 ∧ M.pw a0.toNat - 1 - i.toNat = 12 ∨ a0 = 4 ∧ i = 4 ∧ M.pw a0.toNat - 1 - i.toNat = 11 ∨ a0 = 4 ∧ i = 5 ∧ M.pw a0.toNat - 1 - i.toNat = 10 ∨ a0 = 4 ∧ i = 6 ∧ M.pw a0.toNat - 1 - i.toNat = 9 ∨ a0 = 4 ∧ i = 7 ∧ M.pw a0.toNat - 1 - i.toNat = 8 ∨ a0 = 4 ∧ i = 8 ∧ M.pw a0.toNat - 1 - i.toNat = 7 ∨ a0 = 4 ∧ i = 9 ∧ M.pw a0.toNat - 1 - i.toNat = 6 ∨ a0 = 4 ∧ i = 10 ∧ M.pw a0.toNat - 1 - i.toNat = 5 ∨ a0 = 4 ∧ i = 11 ∧ M.pw a0.toNat - 1 - i.toNat = 4 ∨ a0 = 4 ∧ i = 12 ∧ M.pw a0.toNat - 1 - i.toNat = 3 ∨ a0 = 4 ∧ i = 13 ∧ M.pw a0.toNat - 1 - i.toNat = 2 ∨ a0 = 4 ∧ i = 14 ∧ M.pw a0.toNat - 1 - i.toNat = 1 ∨ a0 = 4 ∧ i = 15 ∧ M.pw a0.toNat - 1 - i.toNat = 0 := by
 rcases hp with rfl | rfl | rfl | rfl
 ·have h2 : i < 2 := h1
  rcases (by omega : i = 0 ∨ i = 1) with rfl | rfl
  ·exact .inl ⟨rfl, rfl, rfl⟩
  ·exact .inr (.inl ⟨rfl, rfl, rfl⟩)
 ·have h2 : i < 4 := h1
  rcases (by omega : i = 0 ∨ i = 1 ∨ i = 2 ∨ i = 3) with rfl | rfl | rfl | rfl
  ·exact .inr (.inr (.inl ⟨rfl, rfl, rfl⟩))
  ·exact .inr (.inr (.inr (.inl ⟨rfl, rfl, rfl⟩)))
  ·exact .inr (.inr (.inr (.inr (.inl ⟨rfl, rfl, rfl⟩))))
  ·exact .inr (.inr (.inr (.inr (.inr (.inl ⟨rfl, rfl, rfl⟩)))))
 ·have h2 : i < 8 := h1
  rcases (by omega : i = 0 ∨ i = 1 ∨ i = 2 ∨ i = 3 ∨ i = 4 ∨ i = 5 ∨ i = 6 ∨ i = 7) with rfl | rfl | rfl | rfl | rfl | rfl | rfl | rfl
  ·exact .inr (.inr (.inr (.inr (.inr (.inr (.inl ⟨rfl, rfl, rfl⟩))))))
  ·exact .inr (.inr (.inr (.inr (.inr (.inr (.inr (.inl ⟨rfl, rfl, rfl⟩)))))))
  ·exact .inr (.inr (.inr (.inr (.inr (.inr (.inr (.inr (.inl ⟨rfl, rfl, rfl⟩))))))))
  ·exact .inr (.inr (.inr (.inr (.inr (.inr (.inr (.inr (.inr (.inl ⟨rfl, rfl, rfl⟩)))))))))
  ·exact .inr (.inr (.inr (.inr (.inr (.inr (.inr (.inr (.inr (.inr (.inl ⟨rfl, rfl, rfl⟩))))))))))
  ·exact .inr (.inr (.inr (.inr (.inr (.inr (.inr (.inr (.inr (.inr (.inr (.inl ⟨rfl, rfl, rfl⟩)))))))))))
  ·exact .inr (.inr (.inr (.inr (.inr (.inr (.inr (.inr (.inr (.inr (.inr (.inr (.inl ⟨rfl, rfl, rfl⟩))))))))))))
  ·exact .inr (.inr (.inr (.inr (.inr (.inr (.inr (.inr (.inr (.inr (.inr (.inr (.inr (.inl ⟨rfl, rfl, rfl⟩)))))))))))))
 ·have h2 : i < 16 := h1
  rcases (by omega : i = 0 ∨ i = 1 ∨ i = 2 ∨ i = 3 ∨ i = 4 ∨ i = 5 ∨ i = 6 ∨ i = 7 ∨ i = 8 ∨ i = 9 ∨ i = 10 ∨ i = 11 ∨ i = 12 ∨ i = 13 ∨ i = 14 ∨ i = 15) with rfl | rfl | rfl | rfl | rfl | rfl | rfl | rfl | rfl | rfl | rfl | rfl | rfl | rfl | rfl | rfl
  ·exact .inr (.inr (.inr (.inr (.inr (.inr (.inr (.inr (.inr (.inr (.inr (.inr (.inr (.inr (.inl ⟨rfl, rfl, rfl⟩))))))))))))))
  ·exact .inr (.inr (.inr (.inr (.inr (.inr (.inr (.inr (.inr (.inr (.inr (.inr (.inr (.inr (.inr (.inl ⟨rfl, rfl, rfl⟩)))))))))))))))
  ·exact .inr (.inr (.inr (.inr (.inr (.inr (.inr (.inr (.inr (.inr (.inr (.inr (.inr (.inr (.inr (.inr (.inl ⟨rfl, rfl, rfl⟩))))))))))))))))
  ·exact .inr (.inr (.inr (.inr (.inr (.inr (.inr (.inr (.inr (.inr (.inr (.inr (.inr (.inr (.inr (.inr (.inr (.inl ⟨rfl, rfl, rfl⟩)))))))))))))))))
  ·exact .inr (.inr (.inr (.inr (.inr (.inr (.inr (.inr (.inr (.inr (.inr (.inr (.inr (.inr (.inr (.inr (.inr (.inr (.inl ⟨rfl, rfl, rfl⟩))))))))))))))))))
  ·exact .inr (.inr (.inr (.inr (.inr (.inr (.inr (.inr (.inr (.inr (.inr (.inr (.inr (.inr (.inr (.inr (.inr (.inr (.inr (.inl ⟨rfl, rfl, rfl⟩)))))))))))))))))))
  ·exact .inr (.inr (.inr (.inr (.inr (.inr (.inr (.inr (.inr (.inr (.inr (.inr (.inr (.inr (.inr (.inr (.inr (.inr (.inr (.inr (.inl ⟨rfl, rfl, rfl⟩))))))))))))))))))))
  ·exact .inr (.inr (.inr (.inr (.inr (.inr (.inr (.inr (.inr (.inr (.inr (.inr (.inr (.inr (.inr (.inr (.inr (.inr (.inr (.inr (.inr (.inl ⟨rfl, rfl, rfl⟩)))))))))))))))))))))
  ·exact .inr (.inr (.inr (.inr (.inr (.inr (.inr (.inr (.inr (.inr (.inr (.inr (.inr (.inr (.inr (.inr (.inr (.inr (.inr (.inr (.inr (.inr (.inl ⟨rfl, rfl, rfl⟩))))))))))))))))))))))
  ·exact .inr (.inr (.inr (.inr (.inr (.inr (.inr (.inr (.inr (.inr (.inr (.inr (.inr (.inr (.inr (.inr (.inr (.inr (.inr (.inr (.inr (.inr (.inr (.inl ⟨rfl, rfl, rfl⟩)))))))))))))))))))))))
  ·exact .inr (.inr (.inr (.inr (.inr (.inr (.inr (.inr (.inr (.inr (.inr (.inr (.inr (.inr (.inr (.inr (.inr (.inr (.inr (.inr (.inr (.inr (.inr (.inr (.inl ⟨rfl, rfl, rfl⟩))))))))))))))))))))))))
  ·exact .inr (.inr (.inr (.inr (.inr (.inr (.inr (.inr (.inr (.inr (.inr (.inr (.inr (.inr (.inr (.inr (.inr (.inr (.inr (.inr (.inr (.inr (.inr (.inr (.inr (.inl ⟨rfl, rfl, rfl⟩)))))))))))))))))))))))))
  ·exact .inr (.inr (.inr (.inr (.inr (.inr (.inr (.inr (.inr (.inr (.inr (.inr (.inr (.inr (.inr (.inr (.inr (.inr (.inr (.inr (.inr (.inr (.inr (.inr (.inr (.inr (.inl ⟨rfl, rfl, rfl⟩))))))))))))))))))))))))))
  ·exact .inr (.inr (.inr (.inr (.inr (.inr (.inr (.inr (.inr (.inr (.inr (.inr (.inr (.inr (.inr (.inr (.inr (.inr (.inr (.inr (.inr (.inr (.inr (.inr (.inr (.inr (.inr (.inl ⟨rfl, rfl, rfl⟩)))))))))))))))))))))))))))
  ·exact .inr (.inr (.inr (.inr (.inr (.inr (.inr (.inr (.inr (.inr (.inr (.inr (.inr (.inr (.inr (.inr (.inr (.inr (.inr (.inr (.inr (.inr (.inr (.inr (.inr (.inr (.inr (.inr (.inl ⟨rfl, rfl, rfl⟩))))))))))))))))))))))))))))
  ·exact .inr (.inr (.inr (.inr (.inr (.inr (.inr (.inr (.inr (.inr (.inr (.inr (.inr (.inr (.inr (.inr (.inr (.inr (.inr (.inr (.inr (.inr (.inr (.inr (.inr (.inr (.inr (.inr (.inr (⟨rfl, rfl, rfl⟩)))))))))))))))))))))))))))))
set_option maxHeartbeats 4000000 in
set_option maxRecDepth 100000 in
theorem impl_OppositeTable.calls (a0 a1 : Int) (r : Int) (w : World) (h : impl_OppositeTable.f a0 a1 = some r) :
  Calls Try.prog 34 #[.int .i64 a0, .int .i64 a1] w fun e w' => e = .returned (.int .i64 r) ∧ Below w.heap.size w w' := by
 have hr := Option.some.inj h
 clear h
 have hmf : ∀ (fn : Fn) (first cap : Array Value) (w : World), (Instr.makeFunc fn first cap).run Try.prog w = .ok (.func fn first cap) w := fun _ _ _ _ => rfl
 have hT := M.impl_tabOk a0 a1
 by_cases hok : M.TabOk a0 a1
 ·rw [if_pos hok] at hr
  rw [decide_eq_true hok] at hT
  have hT' := Lib.hid hT
  clear hT
  have hr' := Lib.hid hr
  clear hr
  obtain ⟨t1, t4, t0, t2⟩ := hok
  have hp : a0 = 1 ∨ a0 = 2 ∨ a0 = 3 ∨ a0 = 4 := by omega
  have h16 : a1 < 65536 := by
   have := M.ppw (n := a0.toNat) (by omega)
   omega
  have HC : ∀ (nd : Nat) (i : Int) (W : World), 0 ≤ i → i < 2 ^ a0.toNat → Below (((w.alloc (.cells #[.int .i64 a0] 3)).alloc (.cells #[.int .i64 a1] 3)).drewN nd).heap.size (((w.alloc (.cells #[.int .i64 a0] 3)).alloc (.cells #[.int .i64 a1] 3)).drewN nd) W →
    Calls Try.prog 82 #[.int .i64 i, .pointer (some ⟨w.heap.size + 1, 0, none⟩), .pointer (some ⟨w.heap.size, 0, none⟩)] W fun e W' => e = .returned (.bool (M.oppP a0.toNat a1.toNat i.toNat)) ∧ Below W.heap.size W W' := fun nd i W h0 h1 hb => by
   have hs : (((w.alloc (.cells #[.int .i64 a0] 3)).alloc (.cells #[.int .i64 a1] 3)).drewN nd).heap.size = w.heap.size + 2 := by simp
   have hcell : ∀ p : Addr, p.block < w.heap.size + 2 → W.cell? p = ((w.alloc (.cells #[.int .i64 a0] 3)).alloc (.cells #[.int .i64 a1] 3)).cell? p := fun p hp => hb.cell (by rw [hs]; exact hp)
   exact M.opp_lit a0 i (M.pw a0.toNat - 1 - i.toNat) a1 (impl_OppositeTable.cases_ a0 i hp h0 h1) t0 h16 ⟨w.heap.size + 1, 0, none⟩ ⟨w.heap.size, 0, none⟩ W
    (by
     rw [hcell _ (by simp), World.cell?_alloc_at _ _ _ _ (by simp)]
     rfl)
    (by
     rw [hcell _ (by simp), World.cell?_alloc_past _ _ _ (by simp), World.cell?_alloc_at _ _ _ _ rfl]
     rfl)
  have HT := fun nd => M.tableBy_OppositeTable (.pointer (some ⟨w.heap.size + 1, 0, none⟩)) (.pointer (some ⟨w.heap.size, 0, none⟩)) a0 hp (M.oppP a0.toNat a1.toNat) _ (HC nd)
  go_enter Try.func34, Try.ntmps34
  go_wp2_with (first | (go_at_call 80; (refine (impl_TableOk.calls a0 a1 true _ hT'.out).mono ?_); rintro e w' ⟨rfl, ⟨nd, rfl⟩⟩) | (go_at_call 81; (refine (HT _).mono ?_); rintro e w' ⟨rfl, hb⟩))
  go_ret
  refine ⟨by rw [← hr'.out]; rfl, below_then (impl_OppositeTable.two w _ _) (by simp; omega) (impl_OppositeTable.below_of_drewN hb)⟩
 ·rw [if_neg hok] at hr
  subst hr
  rw [decide_eq_false hok] at hT
  have hT' := Lib.hid hT
  clear hT
  go_enter Try.func34, Try.ntmps34
  go_wp2_with (go_at_call 80; (refine (impl_TableOk.calls a0 a1 false _ hT'.out).mono ?_); rintro e w' ⟨rfl, ⟨nd, rfl⟩⟩)
  go_ret
  exact ⟨rfl, pw_below_drewN (impl_OppositeTable.two w _ _) _⟩

end Go.Proofs.Ytbhmippoeimliaa.P

/- Go's functions come to just the answers of the Lean functions told here. -/
import Derived.Test.YtcaogllnbpmcgaaDoorMClaimLit
namespace Go.Proofs.YtcaogllnbpmcgaaDoor.P
open Go.RowKit Go.Proofs.YtcaogllnbpmcgaaDoorW.PrintWords Go.Proofs.YtcaogllnbpmcgaaDoorW.PrintLast Go.Proofs.YtcaogllnbpmcgaaDoorW.PrintMore
attribute [local go_sem] max2_int min2_int max_two min_two max_three min_three max_four min_four
set_option linter.unusedVariables false
set_option linter.unusedSimpArgs false
-- HAND rounds=0 making=1
-- IMPORTS: Derived.Test.YtcaogllnbpmcgaaDoorMClaimLit
def impl_ClaimTable.f (a0 : Int) (a1_0 : Int) (l1_1 : List (S82)) : Option Int := some (if M.ClaimP a0 a1_0 l1_1 then ((M.tabN (M.mayB a1_0.toNat l1_1) (M.pw a0.toNat) : Nat) : Int) else -1)
set_option maxHeartbeats 4000000 in
set_option maxRecDepth 100000 in
theorem impl_ClaimTable.calls (a0 : Int) (a1_0 : Int) (A1_1 : Option Addr) (c1_1 : Nat) (l1_1 : List (S82)) (r : Int) (w : World) (hr1_1 : Kd.C k82 w A1_1 l1_1.length l1_1) (hc1_1 : l1_1.length ≤ c1_1) (h : impl_ClaimTable.f a0 a1_0 l1_1 = some r) :
  Calls Tryd.prog 68 #[.int .i64 a0, .agg #[.int .i64 a1_0, .slice A1_1 l1_1.length c1_1]] w fun e w' => e = .returned (.int .i64 r) ∧ Below w.heap.size w w' := by
 have hr := Option.some.inj h
 clear h
 have hmf : ∀ (fn : Fn) (first cap : Array Value) (w : World), (Instr.makeFunc fn first cap).run Tryd.prog w = .ok (.func fn first cap) w := fun _ _ _ _ => rfl
 have hb0 : Below w.heap.size w (w.alloc (.cells #[.int .i64 a1_0, .slice A1_1 l1_1.length c1_1] 79)) := (Below.refl w.heap.size w).alloc (Nat.le_refl _) _
 have hr0 := Kd.C_below hr1_1 hb0
 have hu := Tryd.underlying79
 by_cases hok : M.ClaimP a0 a1_0 l1_1
 rotate_left
 ·rw [if_neg hok] at hr
  subst hr
  obtain ⟨K, hK⟩ := (M.impl_claimOk a0 a1_0 l1_1).ev (b := false) ⟨fun h => (by cases h), fun h => absurd h hok⟩
  have hT := Lib.hid (hK K (Nat.le_refl _))
  clear hK
  go_enter Tryd.func68, Tryd.ntmps68
  go_wp2_with (go_at_call 63; (refine (impl_ClaimOk.calls K a0 a1_0 A1_1 c1_1 l1_1 false _ hr0 hc1_1 hT.out).mono ?_); rintro e w1 ⟨rfl, hb1⟩)
  go_ret
  exact ⟨rfl, below_then hb0 hb0.size hb1⟩
 rw [if_pos hok] at hr
 have hr' := Lib.hid hr
 clear hr
 obtain ⟨K, hK⟩ := (M.impl_claimOk a0 a1_0 l1_1).ev (b := true) ⟨fun _ => hok, fun _ => rfl⟩
 have hT := Lib.hid (hK K (Nat.le_refl _))
 clear hK
 have hn := hok.2.2.1.1
 have hp : a0 = 1 ∨ a0 = 2 ∨ a0 = 3 ∨ a0 = 4 := by omega
 have h16 : (2 : Int) ^ a0.toNat ≤ 16 := by
  have : (2 : Nat) ^ a0.toNat ≤ 2 ^ 4 := Nat.pow_le_pow_right (by decide) (by omega)
  exact_mod_cast this
 have HT : ∀ w1 : World, Below (w.alloc (.cells #[.int .i64 a1_0, .slice A1_1 l1_1.length c1_1] 79)).heap.size (w.alloc (.cells #[.int .i64 a1_0, .slice A1_1 l1_1.length c1_1] 79)) w1 → Calls Tryd.prog 65 #[.int .i64 a0, .func (.func 84) #[] #[.pointer (some ⟨w.heap.size, 0, none⟩)]] w1 fun e w' => e = .returned (.int .i64 ((M.tabN (M.mayB a1_0.toNat l1_1) (M.pw a0.toNat) : Nat) : Int)) ∧ Below w1.heap.size w1 w' := fun w1 h1 =>
  M.tableBy_ClaimTable (.pointer (some ⟨w.heap.size, 0, none⟩)) a0 hp (M.mayB a1_0.toNat l1_1) w1 fun i W i0 i1 hb => by
   obtain ⟨m, rfl⟩ : ∃ m : Nat, i = (m : Int) := ⟨i.toNat, by omega⟩
   obtain ⟨K2, hK2⟩ := M.impl_mayE hok.2.2.1 a1_0 hok.1 (by have := hok.2.1; omega) m (by omega)
   have hsz := h1.size
   have hcell : ∀ q : Addr, q.block = w.heap.size → W.cell? q = (w.alloc (.cells #[.int .i64 a1_0, .slice A1_1 l1_1.length c1_1] 79)).cell? q := fun q hq =>
    (hb.cell (by rw [hq]; simp at hsz; omega)).trans (h1.cell (by rw [hq]; simp))
   rw [Int.toNat_natCast]
   exact M.claim_lit K2 a1_0 A1_1 c1_1 l1_1 (m : Int) _ w.heap.size W (by rw [hcell _ rfl, World.cell?_alloc_at _ _ _ _ rfl]; rfl) (by rw [hcell _ rfl, World.cell?_alloc_at _ _ _ _ rfl]; rfl) (Kd.C_below (Kd.C_below hr0 h1) hb) hc1_1 (hK2 K2 (Nat.le_refl _))
 go_enter Tryd.func68, Tryd.ntmps68
 go_wp2_with (first | (go_at_call 63; (refine (impl_ClaimOk.calls K a0 a1_0 A1_1 c1_1 l1_1 true _ hr0 hc1_1 hT.out).mono ?_); rintro e w1 ⟨rfl, hb1⟩) | (go_at_call 65; (refine (HT _ hb1).mono ?_); rintro e w2 ⟨rfl, hb2⟩))
 go_ret
 exact ⟨by rw [← hr'.out]; rfl, below_then (below_then hb0 hb0.size hb1) (below_then hb0 hb0.size hb1).size hb2⟩
end Go.Proofs.YtcaogllnbpmcgaaDoor.P

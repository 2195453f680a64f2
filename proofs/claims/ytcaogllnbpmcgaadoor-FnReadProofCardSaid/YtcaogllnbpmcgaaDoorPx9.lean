/- Go's functions come to just the answers of the Lean functions told here. -/
import Derived.Test.YtcaogllnbpmcgaaDoorMClaimLit
set_option maxHeartbeats 4000000
set_option maxRecDepth 100000
namespace Go.Proofs.YtcaogllnbpmcgaaDoor.P
open Go.RowKit Go.Proofs.YtcaogllnbpmcgaaDoorW.PrintWords Go.Proofs.YtcaogllnbpmcgaaDoorW.PrintLast Go.Proofs.YtcaogllnbpmcgaaDoorW.PrintMore
attribute [local go_sem] max2_int min2_int max_two min_two max_three min_three max_four min_four
set_option linter.unusedVariables false
set_option linter.unusedSimpArgs false
-- HAND rounds=0 making=1
-- IMPORTS: Derived.Test.YtcaogllnbpmcgaaDoorMClaimLit
def impl_ClaimTable.f (a0 : Int) (a1_0 : Int) (l1_1 : List (S82)) : Option Int := some (if M.ClaimP a0 a1_0 l1_1 then ((M.tabN (M.mayB a1_0.toNat l1_1) (M.pw a0.toNat) : Nat) : Int) else -1)
theorem impl_ClaimTable.calls (j : Int) (c : Int) (d : Option Addr) (g : Nat) (a : List (S82)) (r : Int) (w : World) (s : Kd.C k82 w d a.length a) (l : a.length ≤ g) (h : impl_ClaimTable.f j c a = some r) :
  Calls Tryd.prog 68 #[.int .i64 j, .agg #[.int .i64 c, .slice d a.length g]] w fun e w' => e = .returned (.int .i64 r) ∧ Below w.heap.size w w' := by
 have hr := Option.some.inj h
 clear h
 have hmf : ∀ (fn : Fn) (first cap : Array Value) (w : World), (Instr.makeFunc fn first cap).run Tryd.prog w = .ok (.func fn first cap) w := fun _ _ _ _ => rfl
 have k : Below w.heap.size w (w.alloc (.cells #[.int .i64 c, .slice d a.length g] 79)) := (Below.refl w.heap.size w).alloc (Nat.le_refl _) _
 have p := Kd.C_below s k
 have hu := Tryd.underlying79
 by_cases hok : M.ClaimP j c a
 rotate_left
 ·rw [if_neg hok] at hr
  subst hr
  obtain ⟨K, hK⟩ := (M.impl_claimOk j c a).ev (b := false) ⟨fun h => (by cases h), fun h => absurd h hok⟩
  have hT := Lib.hid (hK K (Nat.le_refl _))
  clear hK
  go_enter Tryd.func68, Tryd.ntmps68
  go_wp2_with (go_at_call 63; (refine (impl_ClaimOk.calls K j c d g a false _ p l hT.out).mono ?_); rintro e n ⟨rfl, o⟩)
  go_ret
  exact ⟨rfl, below_then k k.size o⟩
 rw [if_pos hok] at hr
 have hr' := Lib.hid hr
 clear hr
 obtain ⟨K, hK⟩ := (M.impl_claimOk j c a).ev (b := true) ⟨fun _ => hok, fun _ => rfl⟩
 have hT := Lib.hid (hK K (Nat.le_refl _))
 clear hK
 have hn := hok.2.2.1.1
 have hp : j = 1 ∨ j = 2 ∨ j = 3 ∨ j = 4 := by omega
 have x : (2 : Int) ^ j.toNat ≤ 16 := by
  have : (2 : Nat) ^ j.toNat ≤ 2 ^ 4 := Nat.pow_le_pow_right (by decide) (by omega)
  exact_mod_cast this
 have HT : ∀ n : World, Below (w.alloc (.cells #[.int .i64 c, .slice d a.length g] 79)).heap.size (w.alloc (.cells #[.int .i64 c, .slice d a.length g] 79)) n → Calls Tryd.prog 65 #[.int .i64 j, .func (.func 84) #[] #[.pointer (some ⟨w.heap.size, 0, none⟩)]] n fun e w' => e = .returned (.int .i64 ((M.tabN (M.mayB c.toNat a) (M.pw j.toNat) : Nat) : Int)) ∧ Below n.heap.size n w' := fun n h1 =>
  M.tableBy_ClaimTable (.pointer (some ⟨w.heap.size, 0, none⟩)) j hp (M.mayB c.toNat a) n fun i W y z hb => by
   obtain ⟨m, rfl⟩ : ∃ m : Nat, i = (m : Int) := ⟨i.toNat, by omega⟩
   obtain ⟨t, u⟩ := M.impl_mayE hok.2.2.1 c hok.1 (by have := hok.2.1; omega) m (by omega)
   have hsz := h1.size
   have hcell : ∀ q : Addr, q.block = w.heap.size → W.cell? q = (w.alloc (.cells #[.int .i64 c, .slice d a.length g] 79)).cell? q := fun q hq =>
    (hb.cell (by rw [hq]; simp at hsz; omega)).trans (h1.cell (by rw [hq]; simp))
   rw [Int.toNat_natCast]
   exact M.claim_lit t c d g a (m : Int) _ w.heap.size W (by rw [hcell _ rfl, World.cell?_alloc_at _ _ _ _ rfl]; rfl) (by rw [hcell _ rfl, World.cell?_alloc_at _ _ _ _ rfl]; rfl) (Kd.C_below (Kd.C_below p h1) hb) l (u t (Nat.le_refl _))
 go_enter Tryd.func68, Tryd.ntmps68
 go_wp2_with (first | (go_at_call 63; (refine (impl_ClaimOk.calls K j c d g a true _ p l hT.out).mono ?_); rintro e n ⟨rfl, o⟩) | (go_at_call 65; (refine (HT _ o).mono ?_); rintro e A ⟨rfl, v⟩))
 go_ret
 exact ⟨by rw [← hr'.out]; rfl, below_then (below_then k k.size o) (below_then k k.size o).size v⟩
end Go.Proofs.YtcaogllnbpmcgaaDoor.P

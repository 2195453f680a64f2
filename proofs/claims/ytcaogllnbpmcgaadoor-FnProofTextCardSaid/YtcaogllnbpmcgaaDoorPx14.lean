/- Go's functions come to just the answers of the Lean functions told here. -/
import Derived.Test.YtcaogllnbpmcgaaDoorMTermLit
namespace Go.Proofs.YtcaogllnbpmcgaaDoor.P
open Go.RowKit Go.Proofs.YtcaogllnbpmcgaaDoorW.PrintWords Go.Proofs.YtcaogllnbpmcgaaDoorW.PrintLast Go.Proofs.YtcaogllnbpmcgaaDoorW.PrintMore
attribute [local go_sem] max2_int min2_int max_two min_two max_three min_three max_four min_four
set_option linter.unusedVariables false
set_option linter.unusedSimpArgs false
-- HAND rounds=0 making=1
-- IMPORTS: Derived.Test.YtcaogllnbpmcgaaDoorMTermLit
def impl_TableOf.f (a0 : Int) (l1 : List (S82)) : Option Int := some (if M.TermP a0 l1 then ((M.tabN (M.holdB l1) (M.pw a0.toNat) : Nat) : Int) else -1)
set_option maxHeartbeats 4000000 in
set_option maxRecDepth 100000 in
theorem impl_TableOf.calls (a0 : Int) (A1 : Option Addr) (c1 : Nat) (l1 : List (S82)) (r : Int) (w : World) (hr1 : Kd.C k82 w A1 l1.length l1) (hc1 : l1.length ≤ c1) (h : impl_TableOf.f a0 l1 = some r) :
  Calls Tryd.prog 67 #[.int .i64 a0, .slice A1 l1.length c1] w fun e w' => e = .returned (.int .i64 r) ∧ Below w.heap.size w w' := by
 have hr := Option.some.inj h
 clear h
 have hmf : ∀ (fn : Fn) (first cap : Array Value) (w : World), (Instr.makeFunc fn first cap).run Tryd.prog w = .ok (.func fn first cap) w := fun _ _ _ _ => rfl
 have hb0 : Below w.heap.size w (w.alloc (.cells #[.slice A1 l1.length c1] 24)) := (Below.refl w.heap.size w).alloc (Nat.le_refl _) _
 have hr0 := Kd.C_below hr1 hb0
 have hu := Tryd.underlying79
 by_cases hok : M.TermP a0 l1
 rotate_left
 ·rw [if_neg hok] at hr
  subst hr
  obtain ⟨K, hK⟩ := (M.impl_termOk a0 l1).ev (b := false) ⟨fun h => (by cases h), fun h => absurd h hok⟩
  have hT := Lib.hid (hK K (Nat.le_refl _))
  clear hK
  go_enter Tryd.func67, Tryd.ntmps67
  go_wp2_with (go_at_call 35; (refine (impl_TermOk.calls K a0 A1 c1 l1 false _ hr0 hc1 hT.out).mono ?_); rintro e w1 ⟨rfl, hb1⟩)
  go_ret
  exact ⟨rfl, below_then hb0 hb0.size hb1⟩
 rw [if_pos hok] at hr
 have hr' := Lib.hid hr
 clear hr
 obtain ⟨K, hK⟩ := (M.impl_termOk a0 l1).ev (b := true) ⟨fun _ => hok, fun _ => rfl⟩
 have hT := Lib.hid (hK K (Nat.le_refl _))
 clear hK
 have hn := hok.1
 have hp : a0 = 1 ∨ a0 = 2 ∨ a0 = 3 ∨ a0 = 4 := by omega
 have h16 : (2 : Int) ^ a0.toNat ≤ 16 := by
  have : (2 : Nat) ^ a0.toNat ≤ 2 ^ 4 := Nat.pow_le_pow_right (by decide) (by omega)
  exact_mod_cast this
 have HT : ∀ w1 : World, Below (w.alloc (.cells #[.slice A1 l1.length c1] 24)).heap.size (w.alloc (.cells #[.slice A1 l1.length c1] 24)) w1 → Calls Tryd.prog 65 #[.int .i64 a0, .func (.func 82) #[] #[.pointer (some ⟨w.heap.size, 0, none⟩)]] w1 fun e w' => e = .returned (.int .i64 ((M.tabN (M.holdB l1) (M.pw a0.toNat) : Nat) : Int)) ∧ Below w1.heap.size w1 w' := fun w1 h1 =>
  M.tableBy_TableOf (.pointer (some ⟨w.heap.size, 0, none⟩)) a0 hp (M.holdB l1) w1 fun i W i0 i1 hb => by
   obtain ⟨m, rfl⟩ : ∃ m : Nat, i = (m : Int) := ⟨i.toNat, by omega⟩
   obtain ⟨K2, hK2⟩ := M.impl_holdsT hok m (by omega)
   have hsz := h1.size
   have hcell : ∀ q : Addr, q.block = w.heap.size → W.cell? q = (w.alloc (.cells #[.slice A1 l1.length c1] 24)).cell? q := fun q hq =>
    (hb.cell (by rw [hq]; simp at hsz; omega)).trans (h1.cell (by rw [hq]; simp))
   rw [Int.toNat_natCast]
   exact M.term_lit K2 A1 c1 l1 (m : Int) _ ⟨w.heap.size, 0, none⟩ W (by rw [hcell _ rfl, World.cell?_alloc_at _ _ _ _ rfl]; rfl) (Kd.C_below (Kd.C_below hr0 h1) hb) hc1 (hK2 K2 (Nat.le_refl _))
 go_enter Tryd.func67, Tryd.ntmps67
 go_wp2_with (first | (go_at_call 35; (refine (impl_TermOk.calls K a0 A1 c1 l1 true _ hr0 hc1 hT.out).mono ?_); rintro e w1 ⟨rfl, hb1⟩) | (go_at_call 65; (refine (HT _ hb1).mono ?_); rintro e w2 ⟨rfl, hb2⟩))
 go_ret
 exact ⟨by rw [← hr'.out]; rfl, below_then (below_then hb0 hb0.size hb1) (below_then hb0 hb0.size hb1).size hb2⟩
end Go.Proofs.YtcaogllnbpmcgaaDoor.P

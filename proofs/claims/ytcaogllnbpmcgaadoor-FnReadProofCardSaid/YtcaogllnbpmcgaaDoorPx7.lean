/- Go's functions come to just the answers of the Lean functions told here. -/
import Derived.Test.YtcaogllnbpmcgaaDoorMTermLit
set_option maxHeartbeats 4000000
set_option maxRecDepth 100000
namespace Go.Proofs.YtcaogllnbpmcgaaDoor.P
open Go.RowKit Go.Proofs.YtcaogllnbpmcgaaDoorW.PrintWords Go.Proofs.YtcaogllnbpmcgaaDoorW.PrintLast Go.Proofs.YtcaogllnbpmcgaaDoorW.PrintMore
attribute [local go_sem] max2_int min2_int max_two min_two max_three min_three max_four min_four
set_option linter.unusedVariables false
set_option linter.unusedSimpArgs false
-- HAND rounds=0 making=1
-- IMPORTS: Derived.Test.YtcaogllnbpmcgaaDoorMTermLit
def impl_TableOf.f (a0 : Int) (l1 : List (S82)) : Option Int := some (if M.TermP a0 l1 then ((M.tabN (M.holdB l1) (M.pw a0.toNat) : Nat) : Int) else -1)
theorem impl_TableOf.calls (a : Int) (d : Option Addr) (g : Nat) (l1 : List (S82)) (r : Int) (w : World) (o : Kd.C k82 w d l1.length l1) (l : l1.length ≤ g) (h : impl_TableOf.f a l1 = some r) :
  Calls Tryd.prog 67 #[.int .i64 a, .slice d l1.length g] w fun e w' => e = .returned (.int .i64 r) ∧ Below w.heap.size w w' := by
 have hr := Option.some.inj h
 clear h
 have hmf : ∀ (fn : Fn) (first cap : Array Value) (w : World), (Instr.makeFunc fn first cap).run Tryd.prog w = .ok (.func fn first cap) w := fun _ _ _ _ => rfl
 have c : Below w.heap.size w (w.alloc (.cells #[.slice d l1.length g] 24)) := (Below.refl w.heap.size w).alloc (Nat.le_refl _) _
 have n := Kd.C_below o c
 have hu := Tryd.underlying79
 by_cases hok : M.TermP a l1
 rotate_left
 ·rw [if_neg hok] at hr
  subst hr
  obtain ⟨K, hK⟩ := (M.impl_termOk a l1).ev (b := false) ⟨fun h => (by cases h), fun h => absurd h hok⟩
  have hT := Lib.hid (hK K (Nat.le_refl _))
  clear hK
  go_enter Tryd.func67, Tryd.ntmps67
  go_wp2_with (go_at_call 35; (refine (impl_TermOk.calls K a d g l1 false _ n l hT.out).mono ?_); rintro e j ⟨rfl, k⟩)
  go_ret
  exact ⟨rfl, below_then c c.size k⟩
 rw [if_pos hok] at hr
 have hr' := Lib.hid hr
 clear hr
 obtain ⟨K, hK⟩ := (M.impl_termOk a l1).ev (b := true) ⟨fun _ => hok, fun _ => rfl⟩
 have hT := Lib.hid (hK K (Nat.le_refl _))
 clear hK
 have hn := hok.1
 have hp : a = 1 ∨ a = 2 ∨ a = 3 ∨ a = 4 := by omega
 have u : (2 : Int) ^ a.toNat ≤ 16 := by
  have : (2 : Nat) ^ a.toNat ≤ 2 ^ 4 := Nat.pow_le_pow_right (by decide) (by omega)
  exact_mod_cast this
 have HT : ∀ j : World, Below (w.alloc (.cells #[.slice d l1.length g] 24)).heap.size (w.alloc (.cells #[.slice d l1.length g] 24)) j → Calls Tryd.prog 65 #[.int .i64 a, .func (.func 82) #[] #[.pointer (some ⟨w.heap.size, 0, none⟩)]] j fun e w' => e = .returned (.int .i64 ((M.tabN (M.holdB l1) (M.pw a.toNat) : Nat) : Int)) ∧ Below j.heap.size j w' := fun j h1 =>
  M.tableBy_TableOf (.pointer (some ⟨w.heap.size, 0, none⟩)) a hp (M.holdB l1) j fun i W v x hb => by
   obtain ⟨m, rfl⟩ : ∃ m : Nat, i = (m : Int) := ⟨i.toNat, by omega⟩
   obtain ⟨p, s⟩ := M.impl_holdsT hok m (by omega)
   have hsz := h1.size
   have hcell : ∀ q : Addr, q.block = w.heap.size → W.cell? q = (w.alloc (.cells #[.slice d l1.length g] 24)).cell? q := fun q hq =>
    (hb.cell (by rw [hq]; simp at hsz; omega)).trans (h1.cell (by rw [hq]; simp))
   rw [Int.toNat_natCast]
   exact M.term_lit p d g l1 (m : Int) _ ⟨w.heap.size, 0, none⟩ W (by rw [hcell _ rfl, World.cell?_alloc_at _ _ _ _ rfl]; rfl) (Kd.C_below (Kd.C_below n h1) hb) l (s p (Nat.le_refl _))
 go_enter Tryd.func67, Tryd.ntmps67
 go_wp2_with (first | (go_at_call 35; (refine (impl_TermOk.calls K a d g l1 true _ n l hT.out).mono ?_); rintro e j ⟨rfl, k⟩) | (go_at_call 65; (refine (HT _ k).mono ?_); rintro e y ⟨rfl, t⟩))
 go_ret
 exact ⟨by rw [← hr'.out]; rfl, below_then (below_then c c.size k) (below_then c c.size k).size t⟩
end Go.Proofs.YtcaogllnbpmcgaaDoor.P

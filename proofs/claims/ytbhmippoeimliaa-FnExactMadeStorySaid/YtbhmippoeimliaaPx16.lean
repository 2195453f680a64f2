/- Written by our program myprint.py out of Lean's print of the translation: Go's function comes to just the answer of the Lean function told here. -/
import Derived.Test.YtbhmippoeimliaaPx0
import Derived.Test.YtbhmippoeimliaaPx3
namespace Go.Proofs.Ytbhmippoeimliaa.P
open Go.RowKit Go.Proofs.YtbhmippoeimliaaW.PrintWords Go.Proofs.YtbhmippoeimliaaW.PrintLast Go.Proofs.YtbhmippoeimliaaW.PrintMore
attribute [local go_sem] max2_int min2_int max_two min_two max_three min_three max_four min_four   -- for this text's walks alone
set_option linter.unusedVariables false
set_option linter.unusedSimpArgs false

-- HAND rounds=1 making=1 own=0.0
/-! ### laws_markMarkSS: function 59 -/
def laws_markMarkSS.l0 : Nat → List (List (S81)) → Int → Int → Option (Int × (List (List (S81))))
 | 0, _, _, _ => none
 | k + 1, x0, x1, x5 => if x5 < (x0.length : Int) then (if 0 ≤ x5 then ((laws_markMarkS.f k (x0.getD x5.toNat []) x1).bind fun b => (laws_markMarkSS.l0 k (x0.set x5.toNat b.2) b.1 (wrap64 (x5 + 1)))) else (none)) else (some (x1, x0))
def laws_markMarkSS.f (k : Nat) (l0 : List (List (S81))) (a1 : Int) : Option (Int × (List (List (S81)))) := laws_markMarkSS.l0 k l0 a1 0
theorem laws_markMarkSS.mono_l : ∀ k, ∀ y0 y1 y2, LeO (laws_markMarkSS.l0 k y0 y1 y2) (laws_markMarkSS.l0 (k + 1) y0 y1 y2)
 | 0 => fun _ _ _ r h => by simp [laws_markMarkSS.l0] at h
 | k + 1 => by
  have ih0 := laws_markMarkSS.mono_l k
  intro y0 y1 y2
  unfold laws_markMarkSS.l0
  repeat' first
  | (with_reducible exact ih0 _ _ _)
  | (with_reducible exact laws_markMarkS.mono _ _ _)
  | (with_reducible exact LeO.refl _)
  | (with_reducible refine LeO.ite ?_ ?_)
  | (with_reducible refine LeO.bind ?_ (fun _ => ?_))
theorem laws_markMarkSS.mono : ∀ a0 a1 k, LeO (laws_markMarkSS.f k a0 a1) (laws_markMarkSS.f (k + 1) a0 a1) := fun a0 a1 k => laws_markMarkSS.mono_l k a0 a1 0
set_option maxHeartbeats 8000000 in
set_option maxRecDepth 100000 in
theorem laws_markMarkSS.calls (k : Nat) (P0_ : Nat → Prop) (u9000_ : Value) (l0 : List (List (S81))) (a1 : Int) (r1 : Int) (r2 : List (List (S81))) (w0 w : World) (hB : Below w0.heap.size w0 w) (ho0 : Kd.S (Kd.slice 81 k81) 56 w w0.heap.size P0_ u9000_ l0) (h : laws_markMarkSS.f k l0 a1 = some (r1, r2)) :
  Calls Try.prog 59 #[u9000_, .int .i64 a1] w fun e w' => e = .returned (.int .i64 r1) ∧ Kd.S (Kd.slice 81 k81) 56 w' w0.heap.size (fun k_ => (P0_ k_ ∨ w.heap.size ≤ k_)) u9000_ r2 ∧ Below w0.heap.size w0 w' ∧ Kept w w' (fun k_ => P0_ k_) := by
 have HO0 := Aside0.mk (show Kd.S (Kd.slice 81 k81) 56 w w0.heap.size (fun k_ => (P0_ k_ ∨ w.heap.size ≤ k_)) u9000_ l0 from Kd.S_mono ho0 (fun k_ hk => (.inl hk)))
 have HW0 := hB.size
 have HB0 := Aside0.mk hB
 clear hB ho0
 have H' := Aside0.mk (show laws_markMarkSS.l0 k l0 a1 0 = some (r1, r2) from h)
 clear h
 go_enter Try.func59, Try.ntmps59
 go_wp2
 go_loopg [1, 5] k (fun kq v1 v5 w' => ∃ (x0 : List (List (S81))) (x1 x5 : Int), v1 = .int .i64 x1 ∧ v5 = .int .i64 x5 ∧ Aside0 (laws_markMarkSS.l0 kq x0 x1 x5 = some (r1, r2)) ∧ Aside0 (kq ≤ k) ∧ Aside0 (Kd.S (Kd.slice 81 k81) 56 w' w0.heap.size (fun k_ => (P0_ k_ ∨ w.heap.size ≤ k_)) u9000_ x0) ∧ Aside0 (Kept w w' (fun k_ => P0_ k_)) ∧ Aside0 (Below w0.heap.size w0 w'))
 case atStart => exact ⟨l0, a1, 0, rfl, rfl, H', ⟨Nat.le_refl _⟩, HO0, ⟨Kept.refl w _⟩, HB0⟩
 case round =>
  clear H' HO0 HB0
  obtain ⟨x0, x1, x5, rfl, rfl, HA, HK1, HO, HK, HB⟩ := hrel
  cases gk with
  | zero => exact absurd HA.out (by simp [laws_markMarkSS.l0])
  | succ k1 =>
   have H := HA.out
   clear HA
   simp only [laws_markMarkSS.l0] at H
   by_cases c1 : x5 < (x0.length : Int)
   ·rw [if_pos c1] at H
    by_cases c2 : 0 ≤ x5
    ·rw [if_pos c2] at H
     obtain ⟨⟨r3, r4⟩, hm, H⟩ := Option.bind_eq_some_iff.1 H
     have HM := Aside0.mk hm
     have H' := Aside0.mk H
     clear H hm
     have b1 : decide (x5 < (x0.length : Int)) = true := decide_eq_true c1
     have b2 : decide (0 ≤ x5) = true := decide_eq_true c2
     obtain ⟨g, cap, rfl, hgb, hgl, hgc⟩ := Kd.S_form HO.out (by omega)
     obtain ⟨oki, c, hcl, hM, hcc, hfr, hoki, hH⟩ := Kd.S_elem HO.out [] x5 c2 c1
     obtain ⟨v1, rfl, hR⟩ := hM
     have hx1 : wr.cell? ⟨g, x5.toNat, none⟩ = some v1 := by
      have := hcc 0 _ rfl
      rw [show x5.toNat * (Kd.slice 81 k81).sz + 0 = x5.toNat from by show x5.toNat * 1 + 0 = _; omega] at this
      exact this
     have HH := Aside0.mk hH
     have HR := Aside0.mk hR
     have HOK := Aside0.mk hoki
     have p5 := eq_true c2
     have q5 := eq_true c1
     clear hR hcl hcc hfr hoki hH hgb hgl hgc
     go_wp2_with (go_at_call 75; (with_reducible refine (laws_markMarkS.calls k1 oki v1 (x0.getD x5.toNat []) x1 r3 r4 w0 _ ?side1 ?side2 HM.out).mono ?_); (case side1 => exact HB.out); (case side2 => exact HR.out); rintro e w10 ⟨rfl, hR2, hb, hk⟩; have hH2 := Kd.H_kept (Kd.H_widen HH.out) hk (fun k_ h1 h2 h3 => h2 (.inl h3)); have hS2 := Kd.H_back hH2 (x' := r4) ⟨v1, rfl, hR2⟩ (fun k_ h_ => h_.elim .inl (fun h2 => .inr ⟨.inr (Nat.le_trans HK.out.1 h2), h2⟩)); have n1_ := Aside0.mk hS2; have n2_ := Aside0.mk (Kept.then_ HK.out hk (fun k_ h_ => (HOK.out k_ h_).1)); clear HO HB HK HR HH hk hH2 hR2 hS2; have HO := n1_; have HK := n2_; have HB := Aside0.mk hb; clear n1_ n2_ hb)
     go_roundg k1
     case measure => have := HK1.out; omega
     case rel => exact ⟨x0.set x5.toNat r4, r3, wrap64 (x5 + 1), (by first | rfl | (simp; done) | (simp [*]; done)), (by first | rfl | (simp; done) | (simp [*]; done)), H', ⟨by have := HK1.out; omega⟩, HO, HK, HB⟩
    ·rw [if_neg c2] at H
     exact absurd H (by simp)
   ·rw [if_neg c1] at H
    simp only [Option.some.injEq, Prod.mk.injEq] at H
    obtain ⟨rfl, rfl⟩ := H
    obtain ⟨A, cc, eo⟩ := Kd.S_slice HO.out
    subst eo
    go_wp2
    go_ret
    exact ⟨rfl, HO.out, HB.out, HK.out⟩

end Go.Proofs.Ytbhmippoeimliaa.P

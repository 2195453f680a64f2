/- Go's functions come to just the answers of the Lean functions told here. -/
import Derived.Test.YtcaogllnbpmcgaaDoorPx27
namespace Go.Proofs.YtcaogllnbpmcgaaDoor.P
open Go.RowKit Go.Proofs.YtcaogllnbpmcgaaDoorW.PrintWords Go.Proofs.YtcaogllnbpmcgaaDoorW.PrintLast Go.Proofs.YtcaogllnbpmcgaaDoorW.PrintMore
attribute [local go_sem] max2_int min2_int max_two min_two max_three min_three max_four min_four
set_option linter.unusedVariables false
set_option linter.unusedSimpArgs false

-- HAND rounds=1 making=1
/-! ### laws_markClaimS: function 23 -/
def laws_markClaimS.l0 : Nat → List (S79) → Int → Int → Option (Int × (List (S79)))
 | 0, _, _, _ => none
 | k + 1, x0, x1, x5 => if x5 < (x0.length : Int) then (if 0 ≤ x5 then ((laws_markMarkS.f k ((rd_T79 x0 x5).f1) (wrap64 (x1 + 1))).bind fun b => (laws_markClaimS.l0 k (x0.set x5.toNat (⟨x1, b.2⟩ : S79)) b.1 (wrap64 (x5 + 1)))) else (none)) else (some (x1, x0))
def laws_markClaimS.f (k : Nat) (l0 : List (S79)) (a1 : Int) : Option (Int × (List (S79))) := laws_markClaimS.l0 k l0 a1 0
set_option maxHeartbeats 8000000 in
set_option maxRecDepth 100000 in
theorem laws_markClaimS.calls (k : Nat) (P0_ : Nat → Prop) (u9000_ : Value) (l0 : List (S79)) (a1 : Int) (r1 : Int) (r2 : List (S79)) (w0 w : World) (hB : Below w0.heap.size w0 w) (ho0 : Kd.S k79 79 w w0.heap.size P0_ u9000_ l0) (h : laws_markClaimS.f k l0 a1 = some (r1, r2)) :
  Calls Tryd.prog 23 #[u9000_, .int .i64 a1] w fun e w' => e = .returned (.int .i64 r1) ∧ Kd.S k79 79 w' w0.heap.size (fun k_ => (P0_ k_ ∨ w.heap.size ≤ k_)) u9000_ r2 ∧ Below w0.heap.size w0 w' ∧ Kept w w' (fun k_ => P0_ k_) := by
 have HO0 := Aside0.mk (show Kd.S k79 79 w w0.heap.size (fun k_ => (P0_ k_ ∨ w.heap.size ≤ k_)) u9000_ l0 from Kd.S_mono ho0 (fun k_ hk => (.inl hk)))
 have HW0 := hB.size
 have HB0 := Aside0.mk hB
 clear hB ho0
 have H' := Aside0.mk (show laws_markClaimS.l0 k l0 a1 0 = some (r1, r2) from h)
 clear h
 have hu := Tryd.underlying79
 go_enter Tryd.func23, Tryd.ntmps23
 go_wp2
 go_loopg [1, 5] k (fun kq v1 v5 w' => ∃ (x0 : List (S79)) (x1 x5 : Int), v1 = .int .i64 x1 ∧ v5 = .int .i64 x5 ∧ Aside0 (laws_markClaimS.l0 kq x0 x1 x5 = some (r1, r2)) ∧ Aside0 (kq ≤ k) ∧ Aside0 (Kd.S k79 79 w' w0.heap.size (fun k_ => (P0_ k_ ∨ w.heap.size ≤ k_)) u9000_ x0) ∧ Aside0 (Kept w w' (fun k_ => P0_ k_)) ∧ Aside0 (Below w0.heap.size w0 w'))
 case atStart => exact ⟨l0, a1, 0, rfl, rfl, H', ⟨Nat.le_refl _⟩, HO0, ⟨Kept.refl w _⟩, HB0⟩
 case round =>
  clear H' HO0 HB0
  obtain ⟨x0, x1, x5, rfl, rfl, HA, HK1, HO, HK, HB⟩ := hrel
  cases gk with
  | zero => exact absurd HA.out (by simp [laws_markClaimS.l0])
  | succ k1 =>
   have H := HA.out
   clear HA
   simp only [laws_markClaimS.l0] at H
   by_cases c1 : x5 < (x0.length : Int)
   ·rw [if_pos c1] at H
    by_cases c2 : 0 ≤ x5
    ·rw [if_pos c2] at H
     obtain ⟨⟨r3, r4⟩, hm, H⟩ := Option.bind_eq_some_iff.1 H
     have HM := Aside0.mk hm
     have H' := Aside0.mk H
     clear H hm
     have b1 : decide (x5 < (x0.length : Int)) = true := decide_eq_true c1
     have b2 : decide (0 ≤ x5) = true := decide_eq_true c2
     obtain ⟨g, cap, rfl, hgb, hgl, hgc⟩ := Kd.S_form HO.out (by omega)
     have HPG := Aside0.mk (show P0_ g ∨ w.heap.size ≤ g from (Kd.S_R HO.out).1 g (by simp [Value.ownBlock]))
     have HGB := Aside0.mk hgb
     obtain ⟨oki, c, hcl, hM, hcc, hfr, hoki, hH⟩ := Kd.S_elem HO.out z79 x5 c2 c1
     obtain ⟨v1, rfl, hR⟩ := k79_openM hM
     have HP := Kd.S_seg0 hH c2 c1 (seg := [.int .i64 x1]) (j := 0) (show 1 ≤ 2 from by decide) (x' := (⟨x1, (rd_T79 x0 x5).f1⟩ : S79)) (k79_mkM _ _ _ (⟨x1, (rd_T79 x0 x5).f1⟩ : S79) hR) (fun _ hk => hk)
     have hx0 : wr.cell? ⟨g, x5.toNat * 2, none⟩ = some (.int .i64 ((rd_T79 x0 x5).f0)) := hcc 0 _ rfl
     have hf0 : wr.frozen? ⟨g, x5.toNat * 2, none⟩ = false := hfr 0
     have hl1 : (x0.set x5.toNat (⟨x1, (rd_T79 x0 x5).f1⟩ : S79)).length = x0.length := List.length_set
     have hg1 : (x0.set x5.toNat (⟨x1, (rd_T79 x0 x5).f1⟩ : S79)).getD x5.toNat z79 = ⟨x1, (rd_T79 x0 x5).f1⟩ := by
      rw [List.getD_eq_getElem?_getD, List.getElem?_set_self (by omega)]
      rfl
     have hs1 : ∀ z : S79, (x0.set x5.toNat (⟨x1, (rd_T79 x0 x5).f1⟩ : S79)).set x5.toNat z = x0.set x5.toNat z := fun z => List.set_set _
     generalize x0.set x5.toNat (⟨x1, (rd_T79 x0 x5).f1⟩ : S79) = y0 at HP hl1 hg1 hs1
     have HG1 := Aside0.mk hg1
     have HS1 := Aside0.mk hs1
     have HL1 := Aside0.mk hl1
     have p5 := eq_true c2
     have q5 := eq_true c1
     clear hM hR hcl hcc hfr hoki hH hgb hgl hgc hg1 hs1 hl1
     (try simp only [show (k79).sz = 2 from rfl, Nat.mul_one, Nat.add_zero] at HP)
     go_wp2_with (first | ((with_reducible refine gate_store (t := 3) (p := 16) rfl ?_); refine store_event (t := 3) (p := 16) (v := ?vo_w9) (w1 := (wr.setCell ⟨g, x5.toNat * 2, none⟩ (.int .i64 x1))) ?hg ?ho ?hn ?hr ?_; (case ho => rfl); (case hg => rfl); (case hn => rfl); (case hr => first | (go_simp; done) | (go_simp; rfl)); intro w9 hw; have hg : wr.grownBy w9 (some g) := (by rw [hw]; exact HP.2); have hS : Kd.S k79 79 w9 w0.heap.size (fun k_ => (P0_ k_ ∨ w.heap.size ≤ k_)) (.slice (some ⟨g, 0, none⟩) x0.length cap) y0 := (by rw [hw]; exact HP.1); clear HP; have n1_ := Aside0.mk ((by rw [hw]; exact below_set HB.out HGB.out : Below w0.heap.size w0 w9)); have n2_ := Aside0.mk (Kept.of_grown (S := (fun k_ => P0_ k_)) hg HK.out (fun k_ e_ => by injection e_ with e_; subst e_; exact HPG.out)); clear HO HB HK hx0 hf0; have HB := n1_; have HK := n2_; clear n1_ n2_ hg hw; obtain ⟨oki, c, hcl, hM, hcc, hfr, hoki, hH⟩ := Kd.S_elem hS z79 x5 c2 c1; rw [HG1.out] at hM; obtain ⟨v1, rfl, hR⟩ := k79_openM hM; have hx1 : w9.cell? ⟨g, x5.toNat * 2 + 1, none⟩ = some v1 := hcc 1 _ rfl; have HH := Aside0.mk hH; have HR := Aside0.mk hR; have HOK := Aside0.mk hoki; clear hH hR hoki hM hcl hcc hfr hS) | (go_at_call 24; (with_reducible refine (laws_markMarkS.calls k1 oki v1 ((rd_T79 x0 x5).f1) (wrap64 (x1 + 1)) r3 r4 w0 _ ?side1 ?side2 HM.out).mono ?_); (case side1 => exact HB.out); (case side2 => exact HR.out); rintro e w10 ⟨rfl, hR2, hb, hk⟩; have hH2 := Kd.H_kept (Kd.H_widen HH.out) hk (fun k_ h1 h2 h3 => h2 (.inl h3)); have hS2 := Kd.H_back hH2 (k79_mkM _ _ _ (⟨x1, r4⟩ : S79) hR2) (fun k_ h_ => h_.elim .inl (fun h2 => .inr ⟨.inr (Nat.le_trans HK.out.1 h2), h2⟩)); rw [HS1.out] at hS2; have n1_ := Aside0.mk hS2; have n2_ := Aside0.mk (Kept.then_ HK.out hk (fun k_ h_ => (HOK.out k_ h_).1)); clear HB HK HR HH hk hH2 hR2 hS2; have HO := n1_; have HK := n2_; have HB := Aside0.mk hb; clear n1_ n2_ hb))
     go_roundg k1
     case measure => have := HK1.out; omega
     case rel => exact ⟨x0.set x5.toNat (⟨x1, r4⟩ : S79), r3, wrap64 (x5 + 1), sm_, sm_, H', ⟨by have := HK1.out; omega⟩, HO, HK, HB⟩
    ·rw [if_neg c2] at H
     exact absurd H (by simp)
   ·rw [if_neg c1] at H
    simp only [Option.some.injEq, Prod.mk.injEq] at H
    obtain ⟨rfl, rfl⟩ := H
    obtain ⟨A, cc, eo⟩ := Kd.S_slice HO.out
    subst eo
    go_wp2
    go_ret
    exact ⟨rfl, HO.out, HB.out, HK.out⟩
end Go.Proofs.YtcaogllnbpmcgaaDoor.P

/- Written by our program myprint.py out of Lean's print of the translation: Go's function comes to just the answer of the Lean function told here. -/
import Derived.Test.YtbhmippoeimliaaPx0
import Derived.Test.YtbhmippoeimliaaPx15
namespace Go.Proofs.Ytbhmippoeimliaa.P
open Go.RowKit Go.Proofs.YtbhmippoeimliaaW.PrintWords Go.Proofs.YtbhmippoeimliaaW.PrintLast Go.Proofs.YtbhmippoeimliaaW.PrintMore
attribute [local go_sem] max2_int min2_int max_two min_two max_three min_three max_four min_four   -- for this text's walks alone
set_option linter.unusedVariables false
set_option linter.unusedSimpArgs false

-- HAND rounds=1 making=1
/-! A row's rows each of the call's own, however often they are led to. -/
def ownd {α : Type} (e : Nat) (d : Kd α) (b : Nat) : Kd (List α) where
  sz := 1
  E := e :: d.E
  K := fun w xs cs => ∃ v, cs = [v] ∧ d.R e w b (fun _ => True) v xs
  M := fun w base ok xs cs => ∃ v, cs = [v] ∧ d.R e w (max b base) ok v xs
  K_len := by
    rintro w x cs ⟨v, rfl, _⟩
    rfl
  K_one := by
    rintro w x cs ⟨v, rfl, h⟩ u hu
    rw [List.mem_singleton.1 hu]
    obtain ⟨A, c, rfl⟩ := Kd.R_slice h
    rfl
  K_below := by
    rintro w w1 x cs hb ⟨v, rfl, h⟩
    exact ⟨v, rfl, Kd.R_below h hb⟩
  K_of_M := by
    rintro w base ok x cs ⟨v, rfl, h⟩
    exact ⟨v, rfl, Kd.R_mono (Kd.R_lower h (Nat.le_max_left _ _)) (fun _ _ => trivial)⟩
  M_mono := by
    rintro w base ok ok' x cs hok ⟨v, rfl, h⟩
    exact ⟨v, rfl, Kd.R_mono h hok⟩
  M_bound := by
    rintro w base ok x cs ⟨v, rfl, h⟩
    exact ⟨v, rfl, Kd.R_mono (Kd.R_bound h) (fun k hk => ⟨hk.1, Nat.le_trans (Nat.le_max_right _ _) hk.2.1, hk.2.2⟩)⟩
  M_move := by
    rintro w w1 base ok x cs hm ⟨v, rfl, h⟩
    exact ⟨v, rfl, Kd.R_move h hm⟩
  M_lower := by
    rintro w base base' ok x cs hb ⟨v, rfl, h⟩
    exact ⟨v, rfl, Kd.R_lower h (by omega)⟩
theorem own_K {α : Type} {e b : Nat} {d : Kd α} {w : World} {l : List α} {c : List Value} (h : (ownd e d b).K w l c) : (Kd.slice e d).K w l c := by
  obtain ⟨v, rfl, h⟩ := h
  obtain ⟨A, c, rfl, hl, hC⟩ := Kd.R_reads h
  exact ⟨A, c, rfl, hl, hC⟩
theorem own_C {α : Type} {e b n : Nat} {d : Kd α} {w : World} {A : Option Addr} {l : List (List α)} (h : (ownd e d b).C w A n l) : (Kd.slice e d).C w A n l :=
  ⟨h.1, h.2.1, fun hn => by
    obtain ⟨ad, ea, hc⟩ := h.2.2 hn
    refine ⟨ad, ea, fun j p hj => ?_⟩
    obtain ⟨c, hs, hr, hcell⟩ := hc j p hj
    exact ⟨c, hs, own_K hr, hcell⟩⟩
theorem FK_own_open {α : Type} {e b : Nat} {d : Kd α} {W : World} {ok : Nat → Prop} {l : List α} {cs : List Value} (h : Kd.FK (ownd e d b) W ok l cs) : ∃ A c, cs = [.slice A l.length c] ∧ l.length ≤ c ∧ Kd.F d W ok A l.length l :=
  Kd.FK_slice_open (e := e) (Foot.imp h (fun _ h => own_K h))
theorem FK_own_mk {α : Type} {e b : Nat} {d : Kd α} {W : World} {ok : Nat → Prop} {l : List α} {v : Value} (h : d.R e W b ok v l) : Kd.FK (ownd e d b) W ok l [v] := fun _ hW => ⟨v, rfl, Kd.R_mono (Kd.R_step h hW) (fun _ _ => trivial)⟩
theorem cell_old {w w1 : World} {a : Addr} {v : Value} (h : w.cell? a = some v) (hb : Below w.heap.size w w1) : w1.cell? a = some v := Kd.cell_heap (fun k hk => hb.block k hk) h
theorem cell_apart {w w1 : World} {row : Option Nat} {a : Addr} {i : Nat} {v : Value} (h : w.cell? (a.add i) = some v) (hg : w.grownBy w1 row) (hne : some a.block ≠ row) : w1.cell? (a.add i) = some v := by
  have hb : (a.add i).block = a.block := by
    unfold Addr.add
    split <;> rfl
  have := hg.block a.block (by have h2 := World.block_lt_of_cell? w (a.add i) h; rwa [hb] at h2) hne
  simpa [World.cell?, hb, this] using h
theorem info56p : (Try.prog.info? 56).map (fun i => (i.zero, i.size, i.bytes)) = some (some (.slice none 0 0), 1, 24) := by kernel_rfl
theorem info81p : (Try.prog.info? 81).map (fun i => (i.zero, i.size, i.bytes)) = some (some (.agg #[(.int .i64 0), (.int .i64 0)]), 2, 16) := by kernel_rfl
def rd_Lparts (xs : List (List S81)) (i : Int) : List S81 := xs.getD i.toNat ([] : List S81)
theorem at_Lparts {w : World} {A : Option Addr} {n : Nat} {xs : List (List S81)} (h : Kd.C (Kd.slice 81 k81) w A n xs) (i : Int) (h0 : 0 ≤ i) (h1 : i < n) : ∃ ad A0 c0, A = some ad ∧ w.cell? (ad.add i.toNat) = some (.slice A0 (rd_Lparts xs i).length c0) ∧ (rd_Lparts xs i).length ≤ c0 ∧ k81.C w A0 (rd_Lparts xs i).length (rd_Lparts xs i) := by
  obtain ⟨ad, c, e, _, hK, hc0⟩ := Kd.C_get h ([] : List S81) i h0 h1
  have hc : ∀ j u, c[j]? = some u → w.cell? (ad.add (i.toNat * 1 + j)) = some u := hc0
  obtain ⟨A0, c0, rfl, l0, g0⟩ := hK
  exact ⟨ad, A0, c0, e, by have hq := hc 0 _ rfl; rwa [Nat.mul_one, Nat.add_zero] at hq, l0, g0⟩
/-! ### spec_l20Term: function 108 -/
mutual
def spec_l20Term.l0 : Nat → Int → Int → List (List (S81)) → Int → List Int → Int → Option ((List (S81)) × Int)
 | 0, _, _, _, _, _, _ => none
 | k + 1, x1, x2, x7, x8, x1000, x1001 => if x8 > 0 then ((spec_l20Rd_pick.f k x1000 x1001 4).bind fun bt213 => (if bt213.1 = 0 then ((spec_l20Rd_pick.f k x1000 bt213.2 (wrap64 (x1 + 2))).bind fun bt215 => (if x7.length < 5864062014805 then (spec_l20Term.l0 k x1 x2 (x7 ++ [(([(⟨1, bt215.1⟩ : S81)] : List (S81)))]) (wrap64 (x8 - 1)) x1000 bt215.2) else (none))) else ((spec_l20Rd_pick.f k x1000 bt213.2 x1).bind fun bt223 => (if x7.length < 5864062014805 then (spec_l20Term.l0 k x1 x2 (x7 ++ [(([(⟨0, bt223.1⟩ : S81)] : List (S81)))]) (wrap64 (x8 - 1)) x1000 bt223.2) else (none))))) else (spec_l20Term.l1 k x2 x7 3 x1000 x1001)
def spec_l20Term.l1 : Nat → Int → List (List (S81)) → Int → List Int → Int → Option ((List (S81)) × Int)
 | 0, _, _, _, _, _ => none
 | k + 1, x2, x7, x9, x1000, x1001 => if (x7.length : Int) > 1 then ((spec_l20Rd_pick.f k x1000 x1001 (wrap64 ((x7.length : Int) - 1))).bind fun bt231 => (if x9 > 0 then ((spec_l20Rd_pick.f k x1000 bt231.2 4).bind fun bt233 => (if bt233.1 = 0 then ((some (([] : List (S81)) : List (S81))).bind fun y235 => (if 0 ≤ bt231.1 then (if bt231.1 < (x7.length : Int) then (if y235.length + (rd_Lparts x7 bt231.1).length < 8796093022208 then ((some (y235 ++ (rd_Lparts x7 bt231.1) : List (S81))).bind fun y239 => (if y239.length < 8796093022208 then (spec_l20Term.l1 k x2 (x7.set (bt231.1 : Int).toNat (y239 ++ [(⟨2, 0⟩ : S81)])) (wrap64 (x9 - 1)) x1000 bt233.2) else (none))) else (none)) else (none)) else (none))) else ((some (([] : List (S81)) : List (S81))).bind fun y246 => (if 0 ≤ bt231.1 then (if bt231.1 < (x7.length : Int) then (if y246.length + (rd_Lparts x7 bt231.1).length < 8796093022208 then ((some (y246 ++ (rd_Lparts x7 bt231.1) : List (S81))).bind fun y250 => (if 0 ≤ (wrap64 (bt231.1 + 1)) then (if (wrap64 (bt231.1 + 1)) < (x7.length : Int) then (if y250.length + (rd_Lparts x7 (wrap64 (bt231.1 + 1))).length < 8796093022208 then ((some (y250 ++ (rd_Lparts x7 (wrap64 (bt231.1 + 1))) : List (S81))).bind fun y254 => ((spec_l20Rd_pick.f k x1000 bt233.2 3).bind fun bt257 => (if y254.length < 8796093022208 then ((some (([] : List (List (S81))) : List (List (S81)))).bind fun y262 => (if bt231.1 ≤ (x7.length : Int) then ((some (x7.take (bt231.1 : Int).toNat : List (List (S81)))).bind fun y265 => (if y262.length + y265.length < 5864062014805 then ((some (y262 ++ y265 : List (List (S81)))).bind fun y270 => (if y270.length < 5864062014805 then ((some (y270 ++ [(y254 ++ [(⟨wrap64 (3 + bt257.1), 0⟩ : S81)])] : List (List (S81)))).bind fun y273 => (if 0 ≤ (wrap64 (bt231.1 + 2)) then (if (wrap64 (bt231.1 + 2)) ≤ (x7.length : Int) then ((some (x7.drop ((wrap64 (bt231.1 + 2)) : Int).toNat : List (List (S81)))).bind fun y276 => (if y273.length + y276.length < 5864062014805 then (spec_l20Term.l1 k x2 (y273 ++ y276) x9 x1000 bt257.2) else (none))) else (none)) else (none))) else (none))) else (none))) else (none))) else (none)))) else (none)) else (none)) else (none))) else (none)) else (none)) else (none))))) else ((some (([] : List (S81)) : List (S81))).bind fun y284 => (if 0 ≤ bt231.1 then (if bt231.1 < (x7.length : Int) then (if y284.length + (rd_Lparts x7 bt231.1).length < 8796093022208 then ((some (y284 ++ (rd_Lparts x7 bt231.1) : List (S81))).bind fun y288 => (if 0 ≤ (wrap64 (bt231.1 + 1)) then (if (wrap64 (bt231.1 + 1)) < (x7.length : Int) then (if y288.length + (rd_Lparts x7 (wrap64 (bt231.1 + 1))).length < 8796093022208 then ((some (y288 ++ (rd_Lparts x7 (wrap64 (bt231.1 + 1))) : List (S81))).bind fun y292 => ((spec_l20Rd_pick.f k x1000 bt231.2 3).bind fun bt295 => (if y292.length < 8796093022208 then ((some (([] : List (List (S81))) : List (List (S81)))).bind fun y300 => (if bt231.1 ≤ (x7.length : Int) then ((some (x7.take (bt231.1 : Int).toNat : List (List (S81)))).bind fun y303 => (if y300.length + y303.length < 5864062014805 then ((some (y300 ++ y303 : List (List (S81)))).bind fun y308 => (if y308.length < 5864062014805 then ((some (y308 ++ [(y292 ++ [(⟨wrap64 (3 + bt295.1), 0⟩ : S81)])] : List (List (S81)))).bind fun y311 => (if 0 ≤ (wrap64 (bt231.1 + 2)) then (if (wrap64 (bt231.1 + 2)) ≤ (x7.length : Int) then ((some (x7.drop ((wrap64 (bt231.1 + 2)) : Int).toNat : List (List (S81)))).bind fun y314 => (if y311.length + y314.length < 5864062014805 then (spec_l20Term.l1 k x2 (y311 ++ y314) x9 x1000 bt295.2) else (none))) else (none)) else (none))) else (none))) else (none))) else (none))) else (none)))) else (none)) else (none)) else (none))) else (none)) else (none)) else (none))))) else (if 0 < (x7.length : Int) then ((some (([] : List (S81)) : List (S81))).bind fun y323 => (if y323.length + (rd_Lparts x7 0).length < 8796093022208 then ((some (y323 ++ (rd_Lparts x7 0) : List (S81))).bind fun y326 => ((spec_l20Rd_pick.f k x1000 x1001 5).bind fun bt329 => (if bt329.1 = 0 then (if y326.length < 8796093022208 then (spec_l20Term.j2 k x2 (y326 ++ [(⟨2, 0⟩ : S81)]) x1000 bt329.2) else (none)) else (spec_l20Term.j2 k x2 y326 x1000 bt329.2)))) else (none))) else (none))
def spec_l20Term.j2 : Nat → Int → List (S81) → List Int → Int → Option ((List (S81)) × Int)
 | 0, _, _, _, _ => none
 | k + 1, x2, x13, x1000, x1001 => (spec_l20Rd_odd.f k x1000 x1001 x2).bind fun bt334 => (if bt334.1 = true then ((spec_l20Rd_pick.f k x1000 bt334.2 3).bind fun bt336 => (if bt336.1 = 0 then (some ((([] : List (S81))), bt336.2)) else (if bt336.1 = 1 then (if x13.length < 8796093022208 then (some ((x13 ++ [(⟨5, 0⟩ : S81)]), bt336.2)) else (none)) else ((spec_l20Rd_pick.f k x1000 bt336.2 2).bind fun bt344 => (if 0 < (x13.length : Int) then (some ((x13.set (0 : Int).toNat (⟨bt344.1, 6⟩ : S81)), bt344.2)) else (none)))))) else (some (x13, bt334.2)))
end
def spec_l20Term.f (k : Nat) (s0_0 : List Int) (s0_1 : Int) (a1 : Int) (a2 : Int) : Option ((List (S81)) × Int) := (spec_l20Rd_pick.f k s0_0 s0_1 4).bind fun bt211 => (spec_l20Term.l0 k (mn (mx a1 1) 4) a2 (([] : List (List (S81)))) (wrap64 (1 + bt211.1)) s0_0 bt211.2)
theorem spec_l20Term.mono_l : ∀ k, (∀ y0 y1 y2 y3 y4 y5, LeO (spec_l20Term.l0 k y0 y1 y2 y3 y4 y5) (spec_l20Term.l0 (k + 1) y0 y1 y2 y3 y4 y5)) ∧ (∀ y0 y1 y2 y3 y4, LeO (spec_l20Term.l1 k y0 y1 y2 y3 y4) (spec_l20Term.l1 (k + 1) y0 y1 y2 y3 y4)) ∧ (∀ y0 y1 y2 y3, LeO (spec_l20Term.j2 k y0 y1 y2 y3) (spec_l20Term.j2 (k + 1) y0 y1 y2 y3))
 | 0 => ⟨fun _ _ _ _ _ _ r h => by simp [spec_l20Term.l0] at h, fun _ _ _ _ _ r h => by simp [spec_l20Term.l1] at h, fun _ _ _ _ r h => by simp [spec_l20Term.j2] at h⟩
 | k + 1 => by
  obtain ⟨ih0, ih1, ih2⟩ := spec_l20Term.mono_l k
  refine ⟨?_, ?_, ?_⟩
  ·intro y0 y1 y2 y3 y4 y5
   unfold spec_l20Term.l0
   repeat' first
   | (with_reducible exact ih0 _ _ _ _ _ _)
   | (with_reducible exact ih1 _ _ _ _ _)
   | (with_reducible exact ih2 _ _ _ _)
   | (with_reducible exact spec_l20Rd_odd.mono _ _ _ _)
   | (with_reducible exact spec_l20Rd_pick.mono _ _ _ _)
   | (with_reducible exact LeO.refl _)
   | (with_reducible exact LeO.none _)
   | (with_reducible refine LeO.ite ?_ ?_)
   | (with_reducible refine LeO.bind ?_ (fun _ => ?_))
   | exact ih0 _ _ _ _ _ _
   | exact ih1 _ _ _ _ _
   | exact ih2 _ _ _ _
   | exact spec_l20Rd_odd.mono _ _ _ _
   | exact spec_l20Rd_pick.mono _ _ _ _
   | exact LeO.none _
   | refine LeO.ite ?_ ?_
   | refine LeO.bind ?_ (fun _ => ?_)
  ·intro y0 y1 y2 y3 y4
   unfold spec_l20Term.l1
   repeat' first
   | (with_reducible exact ih0 _ _ _ _ _ _)
   | (with_reducible exact ih1 _ _ _ _ _)
   | (with_reducible exact ih2 _ _ _ _)
   | (with_reducible exact spec_l20Rd_odd.mono _ _ _ _)
   | (with_reducible exact spec_l20Rd_pick.mono _ _ _ _)
   | (with_reducible exact LeO.refl _)
   | (with_reducible exact LeO.none _)
   | (with_reducible refine LeO.ite ?_ ?_)
   | (with_reducible refine LeO.bind ?_ (fun _ => ?_))
   | exact ih0 _ _ _ _ _ _
   | exact ih1 _ _ _ _ _
   | exact ih2 _ _ _ _
   | exact spec_l20Rd_odd.mono _ _ _ _
   | exact spec_l20Rd_pick.mono _ _ _ _
   | exact LeO.none _
   | refine LeO.ite ?_ ?_
   | refine LeO.bind ?_ (fun _ => ?_)
  ·intro y0 y1 y2 y3
   unfold spec_l20Term.j2
   repeat' first
   | (with_reducible exact ih0 _ _ _ _ _ _)
   | (with_reducible exact ih1 _ _ _ _ _)
   | (with_reducible exact ih2 _ _ _ _)
   | (with_reducible exact spec_l20Rd_odd.mono _ _ _ _)
   | (with_reducible exact spec_l20Rd_pick.mono _ _ _ _)
   | (with_reducible exact LeO.refl _)
   | (with_reducible exact LeO.none _)
   | (with_reducible refine LeO.ite ?_ ?_)
   | (with_reducible refine LeO.bind ?_ (fun _ => ?_))
   | exact ih0 _ _ _ _ _ _
   | exact ih1 _ _ _ _ _
   | exact ih2 _ _ _ _
   | exact spec_l20Rd_odd.mono _ _ _ _
   | exact spec_l20Rd_pick.mono _ _ _ _
   | exact LeO.none _
   | refine LeO.ite ?_ ?_
   | refine LeO.bind ?_ (fun _ => ?_)
theorem spec_l20Term.mono : ∀ a0 a1 a2 a3 k, LeO (spec_l20Term.f k a0 a1 a2 a3) (spec_l20Term.f (k + 1) a0 a1 a2 a3) := by
 intro a0 a1 a2 a3 k
 obtain ⟨ih0, ih1, ih2⟩ := spec_l20Term.mono_l k
 unfold spec_l20Term.f
 repeat' first
   | (with_reducible exact ih0 _ _ _ _ _ _)
   | (with_reducible exact ih1 _ _ _ _ _)
   | (with_reducible exact ih2 _ _ _ _)
   | (with_reducible exact spec_l20Rd_odd.mono _ _ _ _)
   | (with_reducible exact spec_l20Rd_pick.mono _ _ _ _)
   | (with_reducible exact LeO.refl _)
   | (with_reducible exact LeO.none _)
   | (with_reducible refine LeO.ite ?_ ?_)
   | (with_reducible refine LeO.bind ?_ (fun _ => ?_))
   | exact ih0 _ _ _ _ _ _
   | exact ih1 _ _ _ _ _
   | exact ih2 _ _ _ _
   | exact spec_l20Rd_odd.mono _ _ _ _
   | exact spec_l20Rd_pick.mono _ _ _ _
   | exact LeO.none _
   | refine LeO.ite ?_ ?_
   | refine LeO.bind ?_ (fun _ => ?_)
set_option maxHeartbeats 8000000 in
set_option maxRecDepth 100000 in
theorem spec_l20Term.calls (k : Nat) (g : Nat) (s0_0 : List Int) (s0_1 : Int) (a1 : Int) (a2 : Int) (r1 : List (S81)) (r2 : Int) (w0 w : World) (hI : IsS124 w0 w g s0_0 s0_1) (hB : Below w0.heap.size w0 w) (h : spec_l20Term.f k s0_0 s0_1 a1 a2 = some (r1, r2)) :
  Calls Try.prog 108 #[.pointer (some ⟨g, 0, none⟩), .int .i64 a1, .int .i64 a2] w fun e w' => ∃ v0_ : Value, e = .returned (v0_) ∧ Kd.R k81 81 w' w.heap.size (fun _ => True) v0_ r1 ∧ IsS124 w0 w' g s0_0 r2 ∧ Below w0.heap.size w0 w' ∧ KeepBut w w' g none := by
 have hu81 := Try.underlying81
 have HI0 := Aside0.mk hI
 have HK := Aside0.mk (KeepBut.refl w g none)
 have HL := Aside0.mk hB.size
 clear hI
 have HW0 := Aside0.mk hB.size
 have HB := Aside0.mk hB
 clear hB
 have H : ((spec_l20Rd_pick.f k s0_0 s0_1 4).bind fun bt211 => (spec_l20Term.l0 k (mn (mx a1 1) 4) a2 (([] : List (List (S81)))) (wrap64 (1 + bt211.1)) s0_0 bt211.2)) = some (r1, r2) := h
 clear h
 obtain ⟨ji4, hji4⟩ : ∃ j_ : Int, (mx a1 1) = j_ := ⟨_, rfl⟩
 replace H : ((spec_l20Rd_pick.f k s0_0 s0_1 4).bind fun bt211 => (spec_l20Term.l0 k (mn (ji4) 4) a2 (([] : List (List (S81)))) (wrap64 (1 + bt211.1)) s0_0 bt211.2)) = some (r1, r2) := by first | (rw [hji4] at H; exact H) | (simp only [hji4] at H ⊢; exact H)
 (try (have hji4l : 1 ≤ ji4 := by (rw [← hji4]; unfold mx; (repeat' split) <;> omega)))
 (try (have hji4m : 0 ≤ ji4 := by omega))
 have hji4_ : (if a1 < 1 then 1 else a1) = ji4 := hji4
 obtain ⟨ji5, hji5⟩ : ∃ j_ : Int, (mn (ji4) 4) = j_ := ⟨_, rfl⟩
 replace H : ((spec_l20Rd_pick.f k s0_0 s0_1 4).bind fun bt211 => (spec_l20Term.l0 k ji5 a2 (([] : List (List (S81)))) (wrap64 (1 + bt211.1)) s0_0 bt211.2)) = some (r1, r2) := by first | (rw [hji5] at H; exact H) | (simp only [hji5] at H ⊢; exact H)
 have hji5_ : (if 4 < (ji4) then 4 else (ji4)) = ji5 := hji5
 have w5_ : wrap64 (ji5 + 2) = ji5 + 2 := Go.IntWalk.wrap64_in _ (by have h4_ := hji4_; have h5_ := hji5_; split at h4_ <;> split at h5_ <;> omega)
 obtain ⟨y208, hy208⟩ : ∃ y_ : List (List (S81)), y_ = (([] : List (List (S81)))) := ⟨_, rfl⟩
 replace H : ((spec_l20Rd_pick.f k s0_0 s0_1 4).bind fun bt211 => (spec_l20Term.l0 k ji5 a2 y208 (wrap64 (1 + bt211.1)) s0_0 bt211.2)) = some (r1, r2) := by first | (rw [hy208]; exact H) | exact H
 have Ny208 := Aside0.mk hy208
 clear hy208
 replace H := Option.bind_eq_some_iff.mp H
 obtain ⟨⟨t211, t212⟩, A60, H⟩ := H
 try dsimp only at H
 have A6 := Aside0.mk A60
 clear A60
 have H' := Aside0.mk H
 clear H
 go_enter Try.func108, Try.ntmps108
 go_wp2_with (first | ((with_reducible refine gate_dst (N := 17) rfl ?_); refine Kd.N_lit (ownd 81 k81 w.heap.size) _ 56 ?hg (N' := 17) ?hd (xs := ([] : List (List (S81)))) (inner := []) (ok := (fun k_ => k_ ≠ g)) (okp := (fun k_ => k_ ≠ g)) ?hr ?hp (fun _ hk => hk) ((show ∀ k_, w.heap.size ≤ k_ → (fun k_ => k_ ≠ g) k_ from fun k_ hk => IsS124.fresh (IsS124.below HI0.out lt_) k_ hk) _ (Nat.le_refl _)) (Below.refl _ _) (Nat.le_refl _) (by simp) ?_; (case hd => rfl); (case hg => rfl); (case hr => first | (go_simp; done) | (go_simp; rfl)); (case hp => exact (Reps.none _ _)); intro v209 w7 ho8 hb hg_ hnew_; clear hg_ hnew_; (first | rw [← Ny208.out] at ho8 | (simp only [Int.reduceToNat] at ho8; rw [← Ny208.out] at ho8)); have HO210 := Aside0.mk (Kd.N_lower ho8 (keep_size (w := w) (g := g) (row := none) (keep_at HK.out))); replace HI0 := Aside0.mk (IsS124.below (IsS124.below HI0.out lt_) hb); replace HK := Aside0.mk (KeepBut.trans (keep_at HK.out) (KeepBut.of_below hb g none) (.inl rfl)); replace HB := Aside0.mk (below_step (below_at HB.out) hb); clear hb ho8) | ((with_reducible refine gate_callee (f := 107) rfl ?_); refine goesL_ (some 19) rfl rfl Try.func107 (by kernel_rfl) rfl #[.pointer (some ⟨g, 0, none⟩), .int .i64 4] rfl (by (try simp only [List.map_toArray, List.map_cons, List.map_nil]); first | done | rfl | (simp only [List.length_drop, List.length_take]; rfl)) ?_; (with_reducible refine (spec_l20Rd_pick.calls k g s0_0 s0_1 4 t211 t212 w0 _ ?side1 ?side2 A6.out).mono ?_); (case side1 => exact IsS124.below HI0.out lt_); (case side2 => exact below_at HB.out); rintro e w9 ⟨rfl, hi, hb, hk⟩; refine ⟨_, rfl, ?_⟩; replace HO210 := Aside0.mk (Kd.N_mono (Kd.N_keep (Kd.N_mono (ok := fun k_ => k_ ≠ g) (Kd.N_below HO210.out lt_) (fun k_ hk_ => (⟨hk_, hk_⟩ : _ ∧ k_ ≠ g))) hk (fun _ h => h.2)) (fun _ h => h.1)); replace HK := Aside0.mk (KeepBut.trans (keep_at HK.out) hk (.inl rfl)); replace HB := Aside0.mk (hb); replace HI0 := Aside0.mk (hi); (try clear hb); (try clear hb2); (try clear hk); (try clear hi)))
 go_loopg [7, 8] k (fun kq v7 v8 w' => ∃ (x7_1 : List (List (S81))) (x8_1 : Int) (x1001_1 : Int), v8 = .int .i64 x8_1 ∧ Aside0 (spec_l20Term.l0 kq ji5 a2 x7_1 x8_1 s0_0 x1001_1 = some (r1, r2)) ∧ Aside0 (kq ≤ k) ∧ Aside0 (Kd.N (ownd 81 k81 w.heap.size) 56 w' w.heap.size (fun k_ => k_ ≠ g) v7 x7_1) ∧ Aside0 (IsS124 w0 w' g s0_0 x1001_1) ∧ Aside0 (KeepBut w w' g none) ∧ Aside0 (Below w0.heap.size w0 w'))
 case atStart => exact ⟨(y208), (wrap64 (1 + t211)), (t212), (by first | rfl | (simp; done) | (simp [*]; done)), H', ⟨Nat.le_refl _⟩, ⟨Kd.N_below HO210.out lt_⟩, ⟨IsS124.below HI0.out lt_⟩, ⟨keep_at HK.out⟩, ⟨below_at HB.out⟩⟩
 clear H'
 try clear c1
 try clear p2
 try clear p6
 obtain ⟨x7_1, x8_1, x1001_1, rfl, HA, HK1, HO_7, HI0, HK, HB⟩ := hrel
 cases gk with
 | zero => exact absurd HA.out (by simp [spec_l20Term.l0])
 | succ k1 =>
  have H := HA.out
  clear HA
  simp only [spec_l20Term.l0] at H
  by_cases c10 : x8_1 > 0
  ·rw [if_pos c10] at H
   have c10b0 : decide (0 < x8_1) = true := decide_eq_true c10
   clear c10
   replace H := Option.bind_eq_some_iff.mp H
   obtain ⟨⟨t213, t214⟩, A110, H⟩ := H
   try dsimp only at H
   have A11 := Aside0.mk A110
   clear A110
   by_cases c12 : t213 = 0
   ·rw [if_pos c12] at H
    have c12b0 : (t213 == 0) = true := beq_iff_eq.mpr c12
    have c12b1 : (t213 != 0) = false := bne_eq_false_iff_eq.mpr c12
    clear c12
    replace H := Option.bind_eq_some_iff.mp H
    obtain ⟨⟨t215, t216⟩, A130, H⟩ := H
    try dsimp only at H
    have A13 := Aside0.mk A130
    clear A130
    obtain ⟨y217, hy217⟩ : ∃ y_ : List (S81), y_ = (([(⟨1, t215⟩ : S81)] : List (S81))) := ⟨_, rfl⟩
    replace H : (if x7_1.length < 5864062014805 then (spec_l20Term.l0 k1 ji5 a2 (x7_1 ++ [y217]) (wrap64 (x8_1 - 1)) s0_0 t216) else (none)) = some (r1, r2) := by first | (rw [hy217]; exact H) | exact H
    have Ny217 := Aside0.mk hy217
    clear hy217
    by_cases c14 : x7_1.length < 5864062014805
    rotate_left
    ·rw [if_neg c14] at H
     exact absurd H (by simp)
    rw [if_pos c14] at H
    have LMc14 := Aside0.mk c14
    clear c14
    obtain ⟨y220, hy220⟩ : ∃ y_ : List (List (S81)), y_ = (x7_1 ++ [y217]) := ⟨_, rfl⟩
    replace H : (spec_l20Term.l0 k1 ji5 a2 y220 (wrap64 (x8_1 - 1)) s0_0 t216) = some (r1, r2) := by first | (rw [hy220]; exact H) | exact H
    have Ny220 := Aside0.mk hy220
    clear hy220
    have H' := Aside0.mk H
    clear H
    go_wp2_with (first | ((with_reducible refine gate_callee (f := 107) rfl ?_); refine goesL_ (some 26) rfl rfl Try.func107 (by kernel_rfl) rfl #[.pointer (some ⟨g, 0, none⟩), .int .i64 4] rfl (by (try simp only [List.map_toArray, List.map_cons, List.map_nil]); first | done | rfl | (simp only [List.length_drop, List.length_take]; rfl)) ?_; (with_reducible refine (spec_l20Rd_pick.calls k1 g s0_0 x1001_1 4 t213 t214 w0 _ ?side1 ?side2 A11.out).mono ?_); (case side1 => exact IsS124.below HI0.out lt_); (case side2 => exact below_at HB.out); rintro e w15 ⟨rfl, hi, hb, hk⟩; refine ⟨_, rfl, ?_⟩; replace HO_7 := Aside0.mk (Kd.N_mono (Kd.N_keep (Kd.N_mono (ok := fun k_ => k_ ≠ g) (Kd.N_below HO_7.out lt_) (fun k_ hk_ => (⟨hk_, hk_⟩ : _ ∧ k_ ≠ g))) hk (fun _ h => h.2)) (fun _ h => h.1)); replace HK := Aside0.mk (KeepBut.trans (keep_at HK.out) hk (.inl rfl)); replace HB := Aside0.mk (hb); replace HI0 := Aside0.mk (hi); (try clear hb); (try clear hb2); (try clear hk); (try clear hi)) | ((with_reducible refine gate_callee (f := 107) rfl ?_); refine goesL_ (some 32) rfl rfl Try.func107 (by kernel_rfl) rfl #[.pointer (some ⟨g, 0, none⟩), .int .i64 (ji5 + 2)] rfl (by (try simp only [List.map_toArray, List.map_cons, List.map_nil]); first | done | (simp only [hji5]; rfl) | rfl | (simp only [List.length_drop, List.length_take]; rfl)) ?_; (with_reducible refine (spec_l20Rd_pick.calls k1 g s0_0 t214 (ji5 + 2) t215 t216 w0 _ ?side1 ?side2 (by have h_ := A13.out; rw [w5_] at h_; exact h_)).mono ?_); (case side1 => exact IsS124.below HI0.out lt_); (case side2 => exact below_at HB.out); rintro e w16 ⟨rfl, hi, hb, hk⟩; refine ⟨_, rfl, ?_⟩; replace HO_7 := Aside0.mk (Kd.N_mono (Kd.N_keep (Kd.N_mono (ok := fun k_ => k_ ≠ g) (Kd.N_below HO_7.out lt_) (fun k_ hk_ => (⟨hk_, hk_⟩ : _ ∧ k_ ≠ g))) hk (fun _ h => h.2)) (fun _ h => h.1)); replace HK := Aside0.mk (KeepBut.trans (keep_at HK.out) hk (.inl rfl)); replace HB := Aside0.mk (hb); replace HI0 := Aside0.mk (hi); (try clear hb); (try clear hb2); (try clear hk); (try clear hi)) | ((with_reducible refine gate_dst (N := 34) rfl ?_); refine Kd.R_lit k81 _ 81 ?hg (N := 34) ?hd (xs := ([(⟨1, t215⟩ : S81)] : List (S81))) (inner := [.int .i64 1, .int .i64 t215]) (ok := fun _ => True) (okp := fun _ => True) ?hr ?hp (fun _ hk => hk) trivial (Below.refl _ _) (Nat.le_refl _) (by simp) ?_; (case hd => rfl); (case hg => rfl); (case hr => first | (go_simp; done) | (go_simp; rfl)); (case hp => exact (Reps.c2 (show Kd.M k81 _ _ _ (⟨1, t215⟩ : S81) [.int .i64 1, .int .i64 t215] from (k81_mkM _ _ _ (⟨1, t215⟩ : S81) )) (Reps.none _ _))); intro v218 w17 ho18 hb hg_ hnew_; clear hg_ hnew_; (first | rw [← Ny217.out] at ho18 | (simp only [Int.reduceToNat] at ho18; rw [← Ny217.out] at ho18)); replace HO_7 := Aside0.mk (Kd.N_elder' (Kd.N_below HO_7.out lt_) (Kd.R_base ho18) hb); have HO219 := Aside0.mk (Kd.R_lower ho18 (keep_size (w := w) (g := g) (row := none) (keep_at HK.out))); replace HI0 := Aside0.mk (IsS124.below (IsS124.below HI0.out lt_) hb); replace HK := Aside0.mk (KeepBut.trans (keep_at HK.out) (KeepBut.of_below hb g none) (.inl rfl)); replace HB := Aside0.mk (below_step (below_at HB.out) hb); clear hb ho18; obtain ⟨Ao20, co20, eo20⟩ := Kd.R_slice HO219.out; subst eo20) | ((with_reducible refine gate_builtin (b := .append) (xs := #[.tmp 28, .tmp 35]) rfl ?_); at_builtin; refine Kd.N_append (ownd 81 k81 w.heap.size) w.heap.size rfl (.tmp 28) (.tmp 35) 73 56 (.slice none 0 0) 24 rfl Try.underlying73 info56p rfl Nat.one_pos (by omega) u7 x7_1 y217 [.slice Ao20 y217.length co20] (fun k_ => k_ ≠ g) (fun k_ => ((fun k_ => k_ ≠ g)) k_ ∧ some k_ ≠ (u7 : Value).ownBlock) rfl rfl ?aP (fun _ hk => hk) ?aF ?aO (Below.refl _ _) ?aS ?aL ?_; (case aP => exact (FK_own_mk (Kd.R_mono (ok' := (fun k_ => ((fun k_ => k_ ≠ g)) k_ ∧ some k_ ≠ (u7 : Value).ownBlock)) (IsS124.apart HI0.out (Kd.R_apart' (HO219.out) (Kd.N_typed HO_7.out) (by decide)) (by decide)) (fun k_ hk => ⟨hk.2, hk.1.2⟩)))); (case aF => exact (fun k_ hk => IsS124.fresh (IsS124.below HI0.out lt_) k_ hk)); (case aO => exact (Kd.N_below (Kd.N_mono HO_7.out (fun _ hk => hk.1)) lt_)); (case aS => exact (keep_size (w := w) (g := g) (row := none) (keep_at HK.out))); (case aL => have := LMc14.out; omega); intro v221 w19 ho hb hg hat; rw [← Ny220.out] at ho; replace HI0 := Aside0.mk (IsS124.grown (IsS124.below HI0.out lt_) hg (IsS124.own_neN HI0.out HO_7.out (by decide))); replace HB := Aside0.mk (below_weaken (below_at HB.out) HL.out hb); replace HK := Aside0.mk (KeepBut.trans (keep_at HK.out) (KeepBut.of_grown hg g) (Kd.N_base2 HO_7.out)); have HO222 := Aside0.mk (ho); (try clear HO_7 HO219); clear ho hb hg hat))
    go_roundg k1
    case measure => have := HK1.out; omega
    case rel => exact ⟨(y220), (wrap64 (x8_1 - 1)), (t216), (by first | rfl | (simp; done) | (simp [*]; done)), H', ⟨by have := HK1.out; omega⟩, ⟨Kd.N_below HO222.out lt_⟩, ⟨IsS124.below HI0.out lt_⟩, ⟨keep_at HK.out⟩, ⟨below_at HB.out⟩⟩
   rw [if_neg c12] at H
   have c12b0 : (t213 == 0) = false := beq_eq_false_iff_ne.mpr c12
   have c12b1 : (t213 != 0) = true := bne_iff_ne.mpr c12
   replace H := Option.bind_eq_some_iff.mp H
   obtain ⟨⟨t223, t224⟩, A210, H⟩ := H
   try dsimp only at H
   have A21 := Aside0.mk A210
   clear A210
   obtain ⟨y225, hy225⟩ : ∃ y_ : List (S81), y_ = (([(⟨0, t223⟩ : S81)] : List (S81))) := ⟨_, rfl⟩
   replace H : (if x7_1.length < 5864062014805 then (spec_l20Term.l0 k1 ji5 a2 (x7_1 ++ [y225]) (wrap64 (x8_1 - 1)) s0_0 t224) else (none)) = some (r1, r2) := by first | (rw [hy225]; exact H) | exact H
   have Ny225 := Aside0.mk hy225
   clear hy225
   by_cases c22 : x7_1.length < 5864062014805
   rotate_left
   ·rw [if_neg c22] at H
    exact absurd H (by simp)
   rw [if_pos c22] at H
   have LMc22 := Aside0.mk c22
   clear c22
   obtain ⟨y228, hy228⟩ : ∃ y_ : List (List (S81)), y_ = (x7_1 ++ [y225]) := ⟨_, rfl⟩
   replace H : (spec_l20Term.l0 k1 ji5 a2 y228 (wrap64 (x8_1 - 1)) s0_0 t224) = some (r1, r2) := by first | (rw [hy228]; exact H) | exact H
   have Ny228 := Aside0.mk hy228
   clear hy228
   have H' := Aside0.mk H
   clear H
   go_wp2_with (first | ((with_reducible refine gate_callee (f := 107) rfl ?_); refine goesL_ (some 26) rfl rfl Try.func107 (by kernel_rfl) rfl #[.pointer (some ⟨g, 0, none⟩), .int .i64 4] rfl (by (try simp only [List.map_toArray, List.map_cons, List.map_nil]); first | done | rfl | (simp only [List.length_drop, List.length_take]; rfl)) ?_; (with_reducible refine (spec_l20Rd_pick.calls k1 g s0_0 x1001_1 4 t213 t214 w0 _ ?side1 ?side2 A11.out).mono ?_); (case side1 => exact IsS124.below HI0.out lt_); (case side2 => exact below_at HB.out); rintro e w23 ⟨rfl, hi, hb, hk⟩; refine ⟨_, rfl, ?_⟩; replace HO_7 := Aside0.mk (Kd.N_mono (Kd.N_keep (Kd.N_mono (ok := fun k_ => k_ ≠ g) (Kd.N_below HO_7.out lt_) (fun k_ hk_ => (⟨hk_, hk_⟩ : _ ∧ k_ ≠ g))) hk (fun _ h => h.2)) (fun _ h => h.1)); replace HK := Aside0.mk (KeepBut.trans (keep_at HK.out) hk (.inl rfl)); replace HB := Aside0.mk (hb); replace HI0 := Aside0.mk (hi); (try clear hb); (try clear hb2); (try clear hk); (try clear hi)) | ((with_reducible refine gate_callee (f := 107) rfl ?_); refine goesL_ (some 40) rfl rfl Try.func107 (by kernel_rfl) rfl #[.pointer (some ⟨g, 0, none⟩), .int .i64 ji5] rfl (by (try simp only [List.map_toArray, List.map_cons, List.map_nil]); first | done | (simp only [hji5]; rfl) | rfl | (simp only [List.length_drop, List.length_take]; rfl)) ?_; (with_reducible refine (spec_l20Rd_pick.calls k1 g s0_0 t214 ji5 t223 t224 w0 _ ?side1 ?side2 A21.out).mono ?_); (case side1 => exact IsS124.below HI0.out lt_); (case side2 => exact below_at HB.out); rintro e w24 ⟨rfl, hi, hb, hk⟩; refine ⟨_, rfl, ?_⟩; replace HO_7 := Aside0.mk (Kd.N_mono (Kd.N_keep (Kd.N_mono (ok := fun k_ => k_ ≠ g) (Kd.N_below HO_7.out lt_) (fun k_ hk_ => (⟨hk_, hk_⟩ : _ ∧ k_ ≠ g))) hk (fun _ h => h.2)) (fun _ h => h.1)); replace HK := Aside0.mk (KeepBut.trans (keep_at HK.out) hk (.inl rfl)); replace HB := Aside0.mk (hb); replace HI0 := Aside0.mk (hi); (try clear hb); (try clear hb2); (try clear hk); (try clear hi)) | ((with_reducible refine gate_dst (N := 42) rfl ?_); refine Kd.R_lit k81 _ 81 ?hg (N := 42) ?hd (xs := ([(⟨0, t223⟩ : S81)] : List (S81))) (inner := [.int .i64 0, .int .i64 t223]) (ok := fun _ => True) (okp := fun _ => True) ?hr ?hp (fun _ hk => hk) trivial (Below.refl _ _) (Nat.le_refl _) (by simp) ?_; (case hd => rfl); (case hg => rfl); (case hr => first | (go_simp; done) | (go_simp; rfl)); (case hp => exact (Reps.c2 (show Kd.M k81 _ _ _ (⟨0, t223⟩ : S81) [.int .i64 0, .int .i64 t223] from (k81_mkM _ _ _ (⟨0, t223⟩ : S81) )) (Reps.none _ _))); intro v226 w25 ho26 hb hg_ hnew_; clear hg_ hnew_; (first | rw [← Ny225.out] at ho26 | (simp only [Int.reduceToNat] at ho26; rw [← Ny225.out] at ho26)); replace HO_7 := Aside0.mk (Kd.N_elder' (Kd.N_below HO_7.out lt_) (Kd.R_base ho26) hb); have HO227 := Aside0.mk (Kd.R_lower ho26 (keep_size (w := w) (g := g) (row := none) (keep_at HK.out))); replace HI0 := Aside0.mk (IsS124.below (IsS124.below HI0.out lt_) hb); replace HK := Aside0.mk (KeepBut.trans (keep_at HK.out) (KeepBut.of_below hb g none) (.inl rfl)); replace HB := Aside0.mk (below_step (below_at HB.out) hb); clear hb ho26; obtain ⟨Ao28, co28, eo28⟩ := Kd.R_slice HO227.out; subst eo28) | ((with_reducible refine gate_builtin (b := .append) (xs := #[.tmp 37, .tmp 43]) rfl ?_); at_builtin; refine Kd.N_append (ownd 81 k81 w.heap.size) w.heap.size rfl (.tmp 37) (.tmp 43) 73 56 (.slice none 0 0) 24 rfl Try.underlying73 info56p rfl Nat.one_pos (by omega) u7 x7_1 y225 [.slice Ao28 y225.length co28] (fun k_ => k_ ≠ g) (fun k_ => ((fun k_ => k_ ≠ g)) k_ ∧ some k_ ≠ (u7 : Value).ownBlock) rfl rfl ?aP (fun _ hk => hk) ?aF ?aO (Below.refl _ _) ?aS ?aL ?_; (case aP => exact (FK_own_mk (Kd.R_mono (ok' := (fun k_ => ((fun k_ => k_ ≠ g)) k_ ∧ some k_ ≠ (u7 : Value).ownBlock)) (IsS124.apart HI0.out (Kd.R_apart' (HO227.out) (Kd.N_typed HO_7.out) (by decide)) (by decide)) (fun k_ hk => ⟨hk.2, hk.1.2⟩)))); (case aF => exact (fun k_ hk => IsS124.fresh (IsS124.below HI0.out lt_) k_ hk)); (case aO => exact (Kd.N_below (Kd.N_mono HO_7.out (fun _ hk => hk.1)) lt_)); (case aS => exact (keep_size (w := w) (g := g) (row := none) (keep_at HK.out))); (case aL => have := LMc22.out; omega); intro v229 w27 ho hb hg hat; rw [← Ny228.out] at ho; replace HI0 := Aside0.mk (IsS124.grown (IsS124.below HI0.out lt_) hg (IsS124.own_neN HI0.out HO_7.out (by decide))); replace HB := Aside0.mk (below_weaken (below_at HB.out) HL.out hb); replace HK := Aside0.mk (KeepBut.trans (keep_at HK.out) (KeepBut.of_grown hg g) (Kd.N_base2 HO_7.out)); have HO230 := Aside0.mk (ho); (try clear HO_7 HO227); clear ho hb hg hat))
   go_roundg k1
   case measure => have := HK1.out; omega
   case rel => exact ⟨(y228), (wrap64 (x8_1 - 1)), (t224), (by first | rfl | (simp; done) | (simp [*]; done)), H', ⟨by have := HK1.out; omega⟩, ⟨Kd.N_below HO230.out lt_⟩, ⟨IsS124.below HI0.out lt_⟩, ⟨keep_at HK.out⟩, ⟨below_at HB.out⟩⟩
  rw [if_neg c10] at H
  have c10b0 : decide (0 < x8_1) = false := decide_eq_false c10
  clear c10
  have H' := Aside0.mk H
  clear H
  go_wp2
  go_loopg [7, 9] k1 (fun kq v7 v9 w' => ∃ (x7_2 : List (List (S81))) (x9_2 : Int) (x1001_2 : Int), v9 = .int .i64 x9_2 ∧ Aside0 (spec_l20Term.l1 kq a2 x7_2 x9_2 s0_0 x1001_2 = some (r1, r2)) ∧ Aside0 (kq ≤ k1) ∧ Aside0 (Kd.N (ownd 81 k81 w.heap.size) 56 w' w.heap.size (fun k_ => k_ ≠ g) v7 x7_2) ∧ Aside0 (IsS124 w0 w' g s0_0 x1001_2) ∧ Aside0 (KeepBut w w' g none) ∧ Aside0 (Below w0.heap.size w0 w'))
  case atStart => exact ⟨(x7_1), (3), (x1001_1), (by first | rfl | (simp; done) | (simp [*]; done)), H', ⟨Nat.le_refl _⟩, ⟨Kd.N_below HO_7.out lt_⟩, ⟨IsS124.below HI0.out lt_⟩, ⟨keep_at HK.out⟩, ⟨below_at HB.out⟩⟩
  clear H'
  try clear c1
  try clear c2
  try clear p2
  try clear p6
  try clear c10
  try clear c10b0
  try clear c12
  try clear c12b0
  try clear c12b1
  try clear c14
  try clear c22
  try clear p2
  try clear p6
  obtain ⟨x7_2, x9_2, x1001_2, rfl, HA, HK2, HO_7, HI0, HK, HB⟩ := hrel
  cases gk with
  | zero => exact absurd HA.out (by simp [spec_l20Term.l1])
  | succ k2 =>
   have H := HA.out
   clear HA
   simp only [spec_l20Term.l1] at H
   by_cases c29 : (x7_2.length : Int) > 1
   rotate_left
   ·rw [if_neg c29] at H
    have c29b0 : decide (1 < (x7_2.length : Int)) = false := decide_eq_false c29
    have c29b1 : decide (1 < x7_2.length) = false := decide_eq_false (by omega)
    clear c29
    by_cases c115 : 0 < (x7_2.length : Int)
    rotate_left
    ·rw [if_neg c115] at H
     exact absurd H (by simp)
    rw [if_pos c115] at H
    have c115b0 : decide (0 < (x7_2.length : Int)) = true := decide_eq_true c115
    have c115b1 : decide (0 < x7_2.length) = true := decide_eq_true (by omega)
    clear c115
    obtain ⟨y323, hy323⟩ : ∃ y_ : List (S81), y_ = (([] : List (S81))) := ⟨_, rfl⟩
    replace H : (if y323.length + (rd_Lparts x7_2 0).length < 8796093022208 then ((some (y323 ++ (rd_Lparts x7_2 0) : List (S81))).bind fun y326 => ((spec_l20Rd_pick.f k2 s0_0 x1001_2 5).bind fun bt329 => (if bt329.1 = 0 then (if y326.length < 8796093022208 then (spec_l20Term.j2 k2 a2 (y326 ++ [(⟨2, 0⟩ : S81)]) s0_0 bt329.2) else (none)) else (spec_l20Term.j2 k2 a2 y326 s0_0 bt329.2)))) else (none)) = some (r1, r2) := by first | (rw [hy323]; exact H) | exact H
    have Ny323 := Aside0.mk hy323
    clear hy323
    by_cases c116 : y323.length + (rd_Lparts x7_2 0).length < 8796093022208
    rotate_left
    ·rw [if_neg c116] at H
     exact absurd H (by simp)
    rw [if_pos c116] at H
    have LMc116 := Aside0.mk c116
    clear c116
    obtain ⟨y326, hy326⟩ : ∃ y_ : List (S81), y_ = (y323 ++ (rd_Lparts x7_2 0)) := ⟨_, rfl⟩
    replace H : ((spec_l20Rd_pick.f k2 s0_0 x1001_2 5).bind fun bt329 => (if bt329.1 = 0 then (if y326.length < 8796093022208 then (spec_l20Term.j2 k2 a2 (y326 ++ [(⟨2, 0⟩ : S81)]) s0_0 bt329.2) else (none)) else (spec_l20Term.j2 k2 a2 y326 s0_0 bt329.2))) = some (r1, r2) := by first | (rw [hy326]; exact H) | exact H
    have Ny326 := Aside0.mk hy326
    clear hy326
    replace H := Option.bind_eq_some_iff.mp H
    obtain ⟨⟨t329, t330⟩, A1170, H⟩ := H
    try dsimp only at H
    have A117 := Aside0.mk A1170
    clear A1170
    have HC118 := Aside0.mk H
    clear H
    obtain ⟨Ao119, co119, eo119⟩ := Kd.N_slice HO_7.out
    subst eo119
    have p322 : 0 ≤ (0 : Int) := (by omega)
    have q322 : 0 < (x7_2.length : Int) := of_decide_eq_true (by first | (with_reducible assumption) | assumption)
    obtain ⟨ad322, A322_0, c322_0, e322, hx322_0, hl322_0, hi322_0⟩ := at_Lparts (own_C (Kd.N_reads' HO_7.out).2.2) 0 p322 q322
    cases e322
    obtain ⟨ce322, hce322, hMe322, hcc322⟩ := Kd.N_get HO_7.out [] 0 p322 (by first | exact q322 | exact of_decide_eq_true (by first | (with_reducible assumption) | assumption) | (have e_ := (Kd.N_reads' HO_7.out).1; omega))
    obtain ⟨ua322_0, uc322_0, rfl, ul322_0, ge322_0⟩ := FK_own_open hMe322
    have hv322_0 := hcc322 0 _ rfl
    rw [Nat.add_zero, show ((ownd 81 k81 w.heap.size)).sz = 1 from rfl, Nat.mul_one] at hv322_0
    replace hv322_0 := Option.some.inj (hv322_0.symm.trans hx322_0)
    injection hv322_0 with hva_ hvn_ hvc_
    rw [hva_] at ge322_0
    rw [hvc_] at ul322_0
    obtain ⟨vo_, ev_, hR_⟩ := Kd.FK_now hMe322
    injection ev_ with ev_
    subst ev_
    rw [hva_, hvc_] at hR_
    obtain ⟨v327, hv_⟩ : ∃ v_, v_ = (Value.slice A322_0 (rd_Lparts x7_2 0).length c322_0) := ⟨_, rfl⟩
    replace hR_ : Kd.R k81 81 _ w.heap.size (fun _ => True) (Value.slice A322_0 (rd_Lparts x7_2 0).length c322_0) (rd_Lparts x7_2 0) := hR_
    rw [← hv_] at hR_
    rw [← hv_] at hx322_0
    have HO328 := Aside0.mk (show Kd.R k81 81 _ w.heap.size (fun _ => True) v327 y326 from by rw [Ny326.out, Ny323.out, List.nil_append]; exact hR_)
    clear hva_ hvn_ hvc_ ge322_0 ul322_0
    clear hcc322 hce322
    have qi322 : (0 < x7_2.length) = True := eq_true (by omega)
    (try rw [show ((0 : Int)).toNat = 0 from rfl] at hx322_0)
    (try rw [Addr.add_zero'] at hx322_0)
    clear hi322_0 hl322_0
    replace p322 := eq_true p322
    replace q322 := eq_true q322
    clear hR_ hv_
    clear HO_7
    go_upto_if 112 with (first | ((with_reducible refine gate_callee (f := 107) rfl ?_); refine goesL_ (some 111) rfl rfl Try.func107 (by kernel_rfl) rfl #[.pointer (some ⟨g, 0, none⟩), .int .i64 5] rfl (by (try simp only [List.map_toArray, List.map_cons, List.map_nil]); first | done | rfl | (simp only [List.length_drop, List.length_take]; rfl)) ?_; (with_reducible refine (spec_l20Rd_pick.calls k2 g s0_0 x1001_2 5 t329 t330 w0 _ ?side1 ?side2 A117.out).mono ?_); (case side1 => exact IsS124.below HI0.out lt_); (case side2 => exact below_at HB.out); rintro e w123 ⟨rfl, hi, hb, hk⟩; refine ⟨_, rfl, ?_⟩; replace HO328 := Aside0.mk (Kd.R_mono (Kd.R_keep (IsS124.apart (show IsS124 w0 _ g s0_0 x1001_2 from IsS124.below HI0.out lt_) (Kd.R_below HO328.out lt_) (by decide)) hk (fun _ h => h.2)) (fun _ h => h.1)); replace HK := Aside0.mk (KeepBut.trans (keep_at HK.out) hk (.inl rfl)); replace HB := Aside0.mk (hb); replace HI0 := Aside0.mk (hi); (try clear hb); (try clear hb2); (try clear hk); (try clear hi)))
    (try simp only [Act.put, List.setIfInBounds_toArray, List.set_cons_zero, List.set_cons_succ])
    go_cut [13] (fun v13 wc => ∃ (kq : Nat) (x13_117 : List (S81)), Aside0 (spec_l20Term.j2 kq a2 x13_117 s0_0 t330 = some (r1, r2)) ∧ Aside0 (kq ≤ k2) ∧ Aside0 (Kd.R k81 81 wc w.heap.size (fun _ => True) v13 x13_117) ∧ Aside0 (IsS124 w0 wc g s0_0 t330) ∧ Aside0 (KeepBut w wc g none) ∧ Aside0 (Below w0.heap.size w0 wc))
    case first =>
     have H := HC118.out
     clear HC118
     by_cases c124 : t329 = 0
     rotate_left
     ·rw [if_neg c124] at H
      have c124b0 : (t329 == 0) = false := beq_eq_false_iff_ne.mpr c124
      have c124b1 : (t329 != 0) = true := bne_iff_ne.mpr c124
      (first | rw [c124b0] | (simp only [i64_w, i32_w]; rw [c124b0]) | skip)
      have H' := Aside0.mk H
      clear H
      go_wp2
      go_meet
      case rel => exact ⟨_, (y326), H', ⟨by have := HK1.out; have := HK2.out; first | omega | exact Nat.le_refl _⟩, ⟨Kd.R_below HO328.out lt_⟩, ⟨IsS124.below HI0.out lt_⟩, ⟨keep_at HK.out⟩, ⟨below_at HB.out⟩⟩
     rw [if_pos c124] at H
     have c124b0 : (t329 == 0) = true := beq_iff_eq.mpr c124
     have c124b1 : (t329 != 0) = false := bne_eq_false_iff_eq.mpr c124
     clear c124
     (first | rw [c124b0] | (simp only [i64_w, i32_w]; rw [c124b0]) | skip)
     by_cases c125 : y326.length < 8796093022208
     rotate_left
     ·rw [if_neg c125] at H
      exact absurd H (by simp)
     rw [if_pos c125] at H
     have LMc125 := Aside0.mk c125
     clear c125
     obtain ⟨y331, hy331⟩ : ∃ y_ : List (S81), y_ = (y326 ++ [(⟨2, 0⟩ : S81)]) := ⟨_, rfl⟩
     replace H : (spec_l20Term.j2 k2 a2 y331 s0_0 t330) = some (r1, r2) := by first | (rw [hy331]; exact H) | exact H
     have Ny331 := Aside0.mk hy331
     clear hy331
     have H' := Aside0.mk H
     clear H
     go_wp2_with (first | ((with_reducible refine gate_builtin (b := .append) (xs := #[.tmp 113, .tmp 115]) rfl ?_); at_builtin; refine Kd.R_append k81 w.heap.size rfl (.tmp 113) (.tmp 115) 56 81 (.agg #[(.int .i64 0), (.int .i64 0)]) 16 rfl Try.underlying56 info81p rfl (by decide) (by omega) v327 y326 (⟨2, 0⟩ : S81) [.int .i64 2, .int .i64 0] (fun _ => True) (fun _ => False) rfl rfl ?aP (fun _ hk => hk.elim) ?aF ?aO (Below.refl _ _) ?aS ?aL ?_; (case aP => exact k81_mkM _ _ _ (⟨2, 0⟩ : S81)); (case aF => exact (fun _ _ => trivial)); (case aO => exact (Kd.R_below HO328.out lt_)); (case aS => exact (keep_size (w := w) (g := g) (row := none) (keep_at HK.out))); (case aL => have := LMc125.out; omega); intro v332 w126 ho hb hg hat; rw [← Ny331.out] at ho; replace HI0 := Aside0.mk (IsS124.grown (IsS124.below HI0.out lt_) hg (IsS124.own_ne HI0.out HO328.out (by decide))); replace HB := Aside0.mk (below_weaken (below_at HB.out) HL.out hb); replace HK := Aside0.mk (KeepBut.trans (keep_at HK.out) (KeepBut.of_grown hg g) (Kd.R_base2 HO328.out)); have HO333 := Aside0.mk (ho); (try clear HO328); clear ho hb hg hat))
     go_meet
     case rel => exact ⟨_, (y331), H', ⟨by have := HK1.out; have := HK2.out; first | omega | exact Nat.le_refl _⟩, ⟨Kd.R_below HO333.out lt_⟩, ⟨IsS124.below HI0.out lt_⟩, ⟨keep_at HK.out⟩, ⟨below_at HB.out⟩⟩
    clear HC118
    try clear c1
    try clear q1
    try clear c2
    try clear p2
    try clear q2
    try clear hx2
    try clear c3
    try clear p3
    try clear q3
    try clear hx3
    try clear qi3
    try clear hf3
    try clear c4
    try clear hx4
    try clear hf4
    try clear c5
    try clear c6
    try clear p6
    try clear q7
    try clear c8
    try clear q8
    try clear c9
    try clear c10
    try clear c10b0
    try clear q10
    try clear c11
    try clear q11
    try clear c12
    try clear c12b0
    try clear c12b1
    try clear c14
    try clear c22
    try clear c23
    try clear p23
    try clear q23
    try clear hx23
    try clear c24
    try clear p24
    try clear q24
    try clear hx24
    try clear c25
    try clear p25
    try clear q25
    try clear hx25
    try clear c28
    try clear p28
    try clear q28
    try clear hx28
    try clear c29
    try clear c29b0
    try clear c29b1
    try clear p29
    try clear q29
    try clear hx29
    try clear c31
    try clear c31b0
    try clear c32
    try clear p32
    try clear q32
    try clear hx32
    try clear qi32
    try clear c33
    try clear c33b0
    try clear c33b1
    try clear c34
    try clear c34b0
    try clear c35
    try clear c35b0
    try clear c36
    try clear c37
    try clear c38
    try clear p38
    try clear q38
    try clear hx38
    try clear hf38
    try clear c46
    try clear hx46
    try clear hf46
    try clear c48
    try clear c48b0
    try clear c49
    try clear c49b0
    try clear c50
    try clear c52
    try clear c52b0
    try clear c53
    try clear c53b0
    try clear c54
    try clear c56
    try clear c57
    try clear c57b0
    try clear c58
    try clear c58b0
    try clear c58b1
    try clear c59
    try clear c60
    try clear c62
    try clear c62b0
    try clear c62b1
    try clear c63
    try clear c63b0
    try clear c63b1
    try clear c64
    try clear p64
    try clear q76
    try clear c80
    try clear q80
    try clear c82
    try clear c82b0
    try clear c83
    try clear c83b0
    try clear c84
    try clear c86
    try clear c86b0
    try clear c87
    try clear c87b0
    try clear c88
    try clear c90
    try clear c91
    try clear c91b0
    try clear c92
    try clear c92b0
    try clear c92b1
    try clear c93
    try clear c94
    try clear c96
    try clear c96b0
    try clear c96b1
    try clear c97
    try clear c97b0
    try clear c97b1
    try clear c98
    try clear c107
    try clear c108
    try clear q109
    try clear c113
    try clear q113
    try clear c115
    try clear c115b0
    try clear c115b1
    try clear c116
    try clear c124
    try clear c124b0
    try clear c124b1
    try clear c125
    try clear hx238_0
    try clear hx249_0
    try clear hx253_0
    try clear hx287_0
    try clear hx291_0
    try clear hx322_0
    try clear hx38_0
    try clear hx46_0
    try clear p2
    try clear p238
    try clear p249
    try clear p253
    try clear p287
    try clear p291
    try clear p322
    try clear p38
    try clear p6
    try clear q0113
    try clear q080
    try clear q109
    try clear q113
    try clear q238
    try clear q249
    try clear q253
    try clear q287
    try clear q291
    try clear q322
    try clear q38
    try clear q76
    try clear q80
    obtain ⟨kq, x13_117, HA, HJ117, HO_13, HI0, HK, HB⟩ := hcut
    cases kq with
    | zero => exact absurd HA.out (by simp [spec_l20Term.j2])
    | succ kj117 =>
     have H := HA.out
     clear HA
     simp only [spec_l20Term.j2] at H
     replace H := Option.bind_eq_some_iff.mp H
     obtain ⟨⟨t334, t335⟩, A1270, H⟩ := H
     try dsimp only at H
     have A127 := Aside0.mk A1270
     clear A1270
     by_cases c128 : t334 = true
     rotate_left
     ·replace c128 := Bool.eq_false_iff.mpr c128
      subst c128
      have H1 : (some (x13_117, t335)) = some (r1, r2) := by rw [if_neg (show ¬ (false = true) by decide)] at H; exact H
      clear H
      have H := H1
      clear H1
      simp only [Option.some.injEq, Prod.mk.injEq] at H
      obtain ⟨rfl, rfl⟩ := H
      go_wp2_with (first | ((with_reducible refine gate_callee (f := 115) rfl ?_); refine goesL_ (some 119) rfl rfl Try.func115 (by kernel_rfl) rfl #[.pointer (some ⟨g, 0, none⟩), .int .i64 a2] rfl (by (try simp only [List.map_toArray, List.map_cons, List.map_nil]); first | done | rfl | (simp only [List.length_drop, List.length_take]; rfl)) ?_; (with_reducible refine (spec_l20Rd_odd.calls kj117 g s0_0 t330 a2 false t335 w0 _ ?side1 ?side2 A127.out).mono ?_); (case side1 => exact IsS124.below HI0.out lt_); (case side2 => exact below_at HB.out); rintro e w148 ⟨rfl, hi, hb, hk⟩; refine ⟨_, rfl, ?_⟩; replace HO_13 := Aside0.mk (Kd.R_mono (Kd.R_keep (IsS124.apart (show IsS124 w0 _ g s0_0 t330 from IsS124.below HI0.out lt_) (Kd.R_below HO_13.out lt_) (by decide)) hk (fun _ h => h.2)) (fun _ h => h.1)); replace HK := Aside0.mk (KeepBut.trans (keep_at HK.out) hk (.inl rfl)); replace HB := Aside0.mk (hb); replace HI0 := Aside0.mk (hi); (try clear hb); (try clear hb2); (try clear hk); (try clear hi)))
      go_ret
      exact ⟨_, by first | rfl | (simp [errW_none, errW_some] <;> rfl) | (simp only [← hji4, ← hji5]; first | rfl | (simp [errW_none, errW_some] <;> rfl)) | (simp [*, errW_none, errW_some] <;> rfl), by (with_reducible repeat (first | apply Kd.R_alloc | apply Kd.R_drewN | apply Kd.R_drew)); exact HO_13.out, IsS124.below HI0.out lt_, below_at HB.out, keep_at HK.out⟩
     subst c128
     have H1 : ((spec_l20Rd_pick.f kj117 s0_0 t335 3).bind fun bt336 => (if bt336.1 = 0 then (some ((([] : List (S81))), bt336.2)) else (if bt336.1 = 1 then (if x13_117.length < 8796093022208 then (some ((x13_117 ++ [(⟨5, 0⟩ : S81)]), bt336.2)) else (none)) else ((spec_l20Rd_pick.f kj117 s0_0 bt336.2 2).bind fun bt344 => (if 0 < (x13_117.length : Int) then (some ((x13_117.set (0 : Int).toNat (⟨bt344.1, 6⟩ : S81)), bt344.2)) else (none)))))) = some (r1, r2) := by rw [if_pos rfl] at H; exact H
     clear H
     have H := H1
     clear H1
     replace H := Option.bind_eq_some_iff.mp H
     obtain ⟨⟨t336, t337⟩, A1290, H⟩ := H
     try dsimp only at H
     have A129 := Aside0.mk A1290
     clear A1290
     by_cases c130 : t336 = 0
     ·rw [if_pos c130] at H
      have c130b0 : (t336 == 0) = true := beq_iff_eq.mpr c130
      have c130b1 : (t336 != 0) = false := bne_eq_false_iff_eq.mpr c130
      clear c130
      obtain ⟨y338, hy338⟩ : ∃ y_ : List (S81), y_ = (([] : List (S81))) := ⟨_, rfl⟩
      replace H : (some (y338, t337)) = some (r1, r2) := by first | (rw [hy338]; exact H) | exact H
      have Ny338 := Aside0.mk hy338
      clear hy338
      simp only [Option.some.injEq, Prod.mk.injEq] at H
      obtain ⟨rfl, rfl⟩ := H
      go_wp2_with (first | ((with_reducible refine gate_callee (f := 115) rfl ?_); refine goesL_ (some 119) rfl rfl Try.func115 (by kernel_rfl) rfl #[.pointer (some ⟨g, 0, none⟩), .int .i64 a2] rfl (by (try simp only [List.map_toArray, List.map_cons, List.map_nil]); first | done | rfl | (simp only [List.length_drop, List.length_take]; rfl)) ?_; (with_reducible refine (spec_l20Rd_odd.calls kj117 g s0_0 t330 a2 true t335 w0 _ ?side1 ?side2 A127.out).mono ?_); (case side1 => exact IsS124.below HI0.out lt_); (case side2 => exact below_at HB.out); rintro e w131 ⟨rfl, hi, hb, hk⟩; refine ⟨_, rfl, ?_⟩; replace HO_13 := Aside0.mk (Kd.R_mono (Kd.R_keep (IsS124.apart (show IsS124 w0 _ g s0_0 t330 from IsS124.below HI0.out lt_) (Kd.R_below HO_13.out lt_) (by decide)) hk (fun _ h => h.2)) (fun _ h => h.1)); replace HK := Aside0.mk (KeepBut.trans (keep_at HK.out) hk (.inl rfl)); replace HB := Aside0.mk (hb); replace HI0 := Aside0.mk (hi); (try clear hb); (try clear hb2); (try clear hk); (try clear hi)) | ((with_reducible refine gate_callee (f := 107) rfl ?_); refine goesL_ (some 121) rfl rfl Try.func107 (by kernel_rfl) rfl #[.pointer (some ⟨g, 0, none⟩), .int .i64 3] rfl (by (try simp only [List.map_toArray, List.map_cons, List.map_nil]); first | done | rfl | (simp only [List.length_drop, List.length_take]; rfl)) ?_; (with_reducible refine (spec_l20Rd_pick.calls kj117 g s0_0 t335 3 t336 t337 w0 _ ?side1 ?side2 A129.out).mono ?_); (case side1 => exact IsS124.below HI0.out lt_); (case side2 => exact below_at HB.out); rintro e w132 ⟨rfl, hi, hb, hk⟩; refine ⟨_, rfl, ?_⟩; replace HO_13 := Aside0.mk (Kd.R_mono (Kd.R_keep (IsS124.apart (show IsS124 w0 _ g s0_0 t335 from IsS124.below HI0.out lt_) (Kd.R_below HO_13.out lt_) (by decide)) hk (fun _ h => h.2)) (fun _ h => h.1)); replace HK := Aside0.mk (KeepBut.trans (keep_at HK.out) hk (.inl rfl)); replace HB := Aside0.mk (hb); replace HI0 := Aside0.mk (hi); (try clear hb); (try clear hb2); (try clear hk); (try clear hi)) | ((with_reducible refine gate_dst (N := 129) rfl ?_); refine Kd.R_lit k81 _ 81 ?hg (N := 129) ?hd (xs := ([] : List (S81))) (inner := []) (ok := fun _ => True) (okp := fun _ => True) ?hr ?hp (fun _ hk => hk) trivial (Below.refl _ _) (Nat.le_refl _) (by simp) ?_; (case hd => rfl); (case hg => rfl); (case hr => first | (go_simp; done) | (go_simp; rfl)); (case hp => exact (Reps.none _ _)); intro v339 w133 ho134 hb hg_ hnew_; clear hg_ hnew_; (first | rw [← Ny338.out] at ho134 | (simp only [Int.reduceToNat] at ho134; rw [← Ny338.out] at ho134)); have HO340 := Aside0.mk (Kd.R_lower (Kd.R_new' ho134 (Kd.R_lt (Kd.R_below HO_13.out lt_))) (keep_size (w := w) (g := g) (row := none) (keep_at HK.out))); replace HI0 := Aside0.mk (IsS124.below (IsS124.below HI0.out lt_) hb); replace HK := Aside0.mk (KeepBut.trans (keep_at HK.out) (KeepBut.of_below hb g none) (.inl rfl)); replace HB := Aside0.mk (below_step (below_at HB.out) hb); (try clear HO_13); clear hb ho134))
      go_ret
      exact ⟨_, by first | rfl | (simp [errW_none, errW_some] <;> rfl) | (simp only [← hji4, ← hji5]; first | rfl | (simp [errW_none, errW_some] <;> rfl)) | (simp [*, errW_none, errW_some] <;> rfl), by (with_reducible repeat (first | apply Kd.R_alloc | apply Kd.R_drewN | apply Kd.R_drew)); exact Kd.R_mono HO340.out (fun _ hk => trivial), IsS124.below HI0.out lt_, below_at HB.out, keep_at HK.out⟩
     rw [if_neg c130] at H
     have c130b0 : (t336 == 0) = false := beq_eq_false_iff_ne.mpr c130
     have c130b1 : (t336 != 0) = true := bne_iff_ne.mpr c130
     by_cases c135 : t336 = 1
     ·rw [if_pos c135] at H
      have c135b0 : (t336 == 1) = true := beq_iff_eq.mpr c135
      have c135b1 : (t336 != 1) = false := bne_eq_false_iff_eq.mpr c135
      clear c135
      by_cases c136 : x13_117.length < 8796093022208
      rotate_left
      ·rw [if_neg c136] at H
       exact absurd H (by simp)
      rw [if_pos c136] at H
      have LMc136 := Aside0.mk c136
      clear c136
      obtain ⟨y341, hy341⟩ : ∃ y_ : List (S81), y_ = (x13_117 ++ [(⟨5, 0⟩ : S81)]) := ⟨_, rfl⟩
      replace H : (some (y341, t337)) = some (r1, r2) := by first | (rw [hy341]; exact H) | exact H
      have Ny341 := Aside0.mk hy341
      clear hy341
      simp only [Option.some.injEq, Prod.mk.injEq] at H
      obtain ⟨rfl, rfl⟩ := H
      go_wp2_with (first | ((with_reducible refine gate_callee (f := 115) rfl ?_); refine goesL_ (some 119) rfl rfl Try.func115 (by kernel_rfl) rfl #[.pointer (some ⟨g, 0, none⟩), .int .i64 a2] rfl (by (try simp only [List.map_toArray, List.map_cons, List.map_nil]); first | done | rfl | (simp only [List.length_drop, List.length_take]; rfl)) ?_; (with_reducible refine (spec_l20Rd_odd.calls kj117 g s0_0 t330 a2 true t335 w0 _ ?side1 ?side2 A127.out).mono ?_); (case side1 => exact IsS124.below HI0.out lt_); (case side2 => exact below_at HB.out); rintro e w137 ⟨rfl, hi, hb, hk⟩; refine ⟨_, rfl, ?_⟩; replace HO_13 := Aside0.mk (Kd.R_mono (Kd.R_keep (IsS124.apart (show IsS124 w0 _ g s0_0 t330 from IsS124.below HI0.out lt_) (Kd.R_below HO_13.out lt_) (by decide)) hk (fun _ h => h.2)) (fun _ h => h.1)); replace HK := Aside0.mk (KeepBut.trans (keep_at HK.out) hk (.inl rfl)); replace HB := Aside0.mk (hb); replace HI0 := Aside0.mk (hi); (try clear hb); (try clear hb2); (try clear hk); (try clear hi)) | ((with_reducible refine gate_callee (f := 107) rfl ?_); refine goesL_ (some 121) rfl rfl Try.func107 (by kernel_rfl) rfl #[.pointer (some ⟨g, 0, none⟩), .int .i64 3] rfl (by (try simp only [List.map_toArray, List.map_cons, List.map_nil]); first | done | rfl | (simp only [List.length_drop, List.length_take]; rfl)) ?_; (with_reducible refine (spec_l20Rd_pick.calls kj117 g s0_0 t335 3 t336 t337 w0 _ ?side1 ?side2 A129.out).mono ?_); (case side1 => exact IsS124.below HI0.out lt_); (case side2 => exact below_at HB.out); rintro e w138 ⟨rfl, hi, hb, hk⟩; refine ⟨_, rfl, ?_⟩; replace HO_13 := Aside0.mk (Kd.R_mono (Kd.R_keep (IsS124.apart (show IsS124 w0 _ g s0_0 t335 from IsS124.below HI0.out lt_) (Kd.R_below HO_13.out lt_) (by decide)) hk (fun _ h => h.2)) (fun _ h => h.1)); replace HK := Aside0.mk (KeepBut.trans (keep_at HK.out) hk (.inl rfl)); replace HB := Aside0.mk (hb); replace HI0 := Aside0.mk (hi); (try clear hb); (try clear hb2); (try clear hk); (try clear hi)) | ((with_reducible refine gate_builtin (b := .append) (xs := #[.tmp 132, .tmp 134]) rfl ?_); at_builtin; refine Kd.R_append k81 w.heap.size rfl (.tmp 132) (.tmp 134) 56 81 (.agg #[(.int .i64 0), (.int .i64 0)]) 16 rfl Try.underlying56 info81p rfl (by decide) (by omega) u13 x13_117 (⟨5, 0⟩ : S81) [.int .i64 5, .int .i64 0] (fun _ => True) (fun _ => False) rfl rfl ?aP (fun _ hk => hk.elim) ?aF ?aO (Below.refl _ _) ?aS ?aL ?_; (case aP => exact k81_mkM _ _ _ (⟨5, 0⟩ : S81)); (case aF => exact (fun _ _ => trivial)); (case aO => exact (Kd.R_below HO_13.out lt_)); (case aS => exact (keep_size (w := w) (g := g) (row := none) (keep_at HK.out))); (case aL => have := LMc136.out; omega); intro v342 w139 ho hb hg hat; rw [← Ny341.out] at ho; replace HI0 := Aside0.mk (IsS124.grown (IsS124.below HI0.out lt_) hg (IsS124.own_ne HI0.out HO_13.out (by decide))); replace HB := Aside0.mk (below_weaken (below_at HB.out) HL.out hb); replace HK := Aside0.mk (KeepBut.trans (keep_at HK.out) (KeepBut.of_grown hg g) (Kd.R_base2 HO_13.out)); have HO343 := Aside0.mk (ho); (try clear HO_13); clear ho hb hg hat))
      go_ret
      exact ⟨_, by first | rfl | (simp [errW_none, errW_some] <;> rfl) | (simp only [← hji4, ← hji5]; first | rfl | (simp [errW_none, errW_some] <;> rfl)) | (simp [*, errW_none, errW_some] <;> rfl), by (with_reducible repeat (first | apply Kd.R_alloc | apply Kd.R_drewN | apply Kd.R_drew)); exact HO343.out, IsS124.below HI0.out lt_, below_at HB.out, keep_at HK.out⟩
     rw [if_neg c135] at H
     have c135b0 : (t336 == 1) = false := beq_eq_false_iff_ne.mpr c135
     have c135b1 : (t336 != 1) = true := bne_iff_ne.mpr c135
     replace H := Option.bind_eq_some_iff.mp H
     obtain ⟨⟨t344, t345⟩, A1400, H⟩ := H
     try dsimp only at H
     have A140 := Aside0.mk A1400
     clear A1400
     by_cases c141 : 0 < (x13_117.length : Int)
     rotate_left
     ·rw [if_neg c141] at H
      exact absurd H (by simp)
     rw [if_pos c141] at H
     have c141b0 : decide (0 < (x13_117.length : Int)) = true := decide_eq_true c141
     have c141b1 : decide (0 < x13_117.length) = true := decide_eq_true (by omega)
     clear c141
     obtain ⟨y346, hy346⟩ : ∃ y_ : List (S81), y_ = (x13_117.set (0 : Int).toNat (⟨t344, 6⟩ : S81)) := ⟨_, rfl⟩
     replace H : (some (y346, t345)) = some (r1, r2) := by first | (rw [hy346]; exact H) | exact H
     have Ny346 := Aside0.mk hy346
     clear hy346
     simp only [Option.some.injEq, Prod.mk.injEq] at H
     obtain ⟨rfl, rfl⟩ := H
     go_wp2_with (first | ((with_reducible refine gate_callee (f := 115) rfl ?_); refine goesL_ (some 119) rfl rfl Try.func115 (by kernel_rfl) rfl #[.pointer (some ⟨g, 0, none⟩), .int .i64 a2] rfl (by (try simp only [List.map_toArray, List.map_cons, List.map_nil]); first | done | rfl | (simp only [List.length_drop, List.length_take]; rfl)) ?_; (with_reducible refine (spec_l20Rd_odd.calls kj117 g s0_0 t330 a2 true t335 w0 _ ?side1 ?side2 A127.out).mono ?_); (case side1 => exact IsS124.below HI0.out lt_); (case side2 => exact below_at HB.out); rintro e w143 ⟨rfl, hi, hb, hk⟩; refine ⟨_, rfl, ?_⟩; replace HO_13 := Aside0.mk (Kd.R_mono (Kd.R_keep (IsS124.apart (show IsS124 w0 _ g s0_0 t330 from IsS124.below HI0.out lt_) (Kd.R_below HO_13.out lt_) (by decide)) hk (fun _ h => h.2)) (fun _ h => h.1)); replace HK := Aside0.mk (KeepBut.trans (keep_at HK.out) hk (.inl rfl)); replace HB := Aside0.mk (hb); replace HI0 := Aside0.mk (hi); (try clear hb); (try clear hb2); (try clear hk); (try clear hi)) | ((with_reducible refine gate_callee (f := 107) rfl ?_); refine goesL_ (some 121) rfl rfl Try.func107 (by kernel_rfl) rfl #[.pointer (some ⟨g, 0, none⟩), .int .i64 3] rfl (by (try simp only [List.map_toArray, List.map_cons, List.map_nil]); first | done | rfl | (simp only [List.length_drop, List.length_take]; rfl)) ?_; (with_reducible refine (spec_l20Rd_pick.calls kj117 g s0_0 t335 3 t336 t337 w0 _ ?side1 ?side2 A129.out).mono ?_); (case side1 => exact IsS124.below HI0.out lt_); (case side2 => exact below_at HB.out); rintro e w144 ⟨rfl, hi, hb, hk⟩; refine ⟨_, rfl, ?_⟩; replace HO_13 := Aside0.mk (Kd.R_mono (Kd.R_keep (IsS124.apart (show IsS124 w0 _ g s0_0 t335 from IsS124.below HI0.out lt_) (Kd.R_below HO_13.out lt_) (by decide)) hk (fun _ h => h.2)) (fun _ h => h.1)); replace HK := Aside0.mk (KeepBut.trans (keep_at HK.out) hk (.inl rfl)); replace HB := Aside0.mk (hb); replace HI0 := Aside0.mk (hi); (try clear hb); (try clear hb2); (try clear hk); (try clear hi)) | ((with_reducible refine gate_callee (f := 107) rfl ?_); refine goesL_ (some 124) rfl rfl Try.func107 (by kernel_rfl) rfl #[.pointer (some ⟨g, 0, none⟩), .int .i64 2] rfl (by (try simp only [List.map_toArray, List.map_cons, List.map_nil]); first | done | rfl | (simp only [List.length_drop, List.length_take]; rfl)) ?_; (with_reducible refine (spec_l20Rd_pick.calls kj117 g s0_0 t337 2 t344 t345 w0 _ ?side1 ?side2 A140.out).mono ?_); (case side1 => exact IsS124.below HI0.out lt_); (case side2 => exact below_at HB.out); rintro e w145 ⟨rfl, hi, hb, hk⟩; refine ⟨_, rfl, ?_⟩; replace HO_13 := Aside0.mk (Kd.R_mono (Kd.R_keep (IsS124.apart (show IsS124 w0 _ g s0_0 t337 from IsS124.below HI0.out lt_) (Kd.R_below HO_13.out lt_) (by decide)) hk (fun _ h => h.2)) (fun _ h => h.1)); replace HK := Aside0.mk (KeepBut.trans (keep_at HK.out) hk (.inl rfl)); replace HB := Aside0.mk (hb); replace HI0 := Aside0.mk (hi); (try clear hb); (try clear hb2); (try clear hk); (try clear hi); have p142 : 0 ≤ (0 : Int) := (by omega); have q142 : (0 : Int) < ((x13_117.length : Int) : Int) := of_decide_eq_true (by first | (with_reducible assumption) | assumption); have qi142 : (0 < x13_117.length) = True := eq_true (by omega); obtain ⟨go142, co142, eo142, gb142, gl142, cl142, HG142⟩ := Kd.R_form HO_13.out (by omega); (first | cases eo142 | (injection eo142 with ea_ en_ ec_; (first | subst ea_ | (injection ea_ with ea_; subst ea_)); subst ec_; clear en_)); have GB142 := Aside0.mk gb142; have GG142 := Aside0.mk HG142; clear gb142 gl142 HG142; obtain ⟨ce142, hcl142, hM142, hcc142, hfr142⟩ := Kd.R_elem HO_13.out z81 (0 : Int) p142 q142; obtain rfl := k81_openM hM142; have hx142_0 : w145.cell? ⟨go142, (0 : Int).toNat * 2, none⟩ = some (.int .i64 ((rd_T81 x13_117 0).f0)) := hcc142 0 _ rfl; have hx142_1 : w145.cell? ⟨go142, (0 : Int).toNat * 2 + 1, none⟩ = some (.int .i64 ((rd_T81 x13_117 0).f1)) := hcc142 1 _ rfl; have hf142_0 : w145.frozen? ⟨go142, (0 : Int).toNat * 2, none⟩ = false := hfr142 0; have hf142_1 : w145.frozen? ⟨go142, (0 : Int).toNat * 2 + 1, none⟩ = false := hfr142 1; (try clear hM142); clear hcl142 hcc142 hfr142; (try rw [show ((0 : Int)).toNat = 0 from rfl] at hx142_0); (try simp only [Nat.reduceMul, Nat.zero_mul, Nat.zero_add, Nat.reduceAdd] at hx142_0); (try rw [show ((0 : Int)).toNat = 0 from rfl] at hf142_0); (try simp only [Nat.reduceMul, Nat.zero_mul, Nat.zero_add, Nat.reduceAdd] at hf142_0); (try rw [show ((0 : Int)).toNat = 0 from rfl] at hx142_1); (try simp only [Nat.reduceMul, Nat.zero_mul, Nat.zero_add, Nat.reduceAdd] at hx142_1); (try rw [show ((0 : Int)).toNat = 0 from rfl] at hf142_1); (try simp only [Nat.reduceMul, Nat.zero_mul, Nat.zero_add, Nat.reduceAdd] at hf142_1); replace p142 := eq_true p142; replace q142 := eq_true q142; have HX146 := Aside0.mk (show Kd.R k81 81 w145 w.heap.size (fun _ => True) (.slice (some ⟨go142, 0, none⟩) x13_117.length co142) x13_117 from (Kd.R_below HO_13.out lt_)); obtain ⟨ce146, hcl146, hM146, hcc146, hfr146⟩ := Kd.R_elem HX146.out z81 (0 : Int) (by omega) (by have h_ : (0 : Int) < ((x13_117.length : Int) : Int) := of_decide_eq_true (by first | (with_reducible assumption) | assumption); first | exact h_ | (have e_ := (Kd.R_reads' HO_13.out).1; omega) | simpa using h_); obtain rfl := k81_openM hM146; have HP146 := Kd.R_seg HX146.out (0 : Int) (by omega) (by have h_ : (0 : Int) < ((x13_117.length : Int) : Int) := of_decide_eq_true (by first | (with_reducible assumption) | assumption); first | exact h_ | (have e_ := (Kd.R_reads' HO_13.out).1; omega) | simpa using h_) (seg := [.int .i64 t344, .int .i64 6]) (j := 0) hcl146 hcc146 (show 2 ≤ 2 from by decide) (x' := (⟨t344, 6⟩ : S81)) (k81_mkM _ _ _ (⟨t344, 6⟩ : S81) ) (fun _ hk => hk); have hx146_0 := hcc146 0 _ rfl; (try simp only [show (k81).sz = 2 from rfl, Nat.mul_one, Nat.add_zero] at hx146_0); (try rw [show ((0 : Int)).toNat = 0 from rfl] at hx146_0); (try simp only [Nat.reduceMul, Nat.zero_mul, Nat.zero_add, Nat.reduceAdd] at hx146_0); have hf146_0 := hfr146 0; (try simp only [show (k81).sz = 2 from rfl, Nat.mul_one, Nat.add_zero] at hf146_0); (try rw [show ((0 : Int)).toNat = 0 from rfl] at hf146_0); (try simp only [Nat.reduceMul, Nat.zero_mul, Nat.zero_add, Nat.reduceAdd] at hf146_0); have hx146_1 := hcc146 1 _ rfl; (try simp only [show (k81).sz = 2 from rfl, Nat.mul_one, Nat.add_zero] at hx146_1); (try rw [show ((0 : Int)).toNat = 0 from rfl] at hx146_1); (try simp only [Nat.reduceMul, Nat.zero_mul, Nat.zero_add, Nat.reduceAdd] at hx146_1); have hf146_1 := hfr146 1; (try simp only [show (k81).sz = 2 from rfl, Nat.mul_one, Nat.add_zero] at hf146_1); (try rw [show ((0 : Int)).toNat = 0 from rfl] at hf146_1); (try simp only [Nat.reduceMul, Nat.zero_mul, Nat.zero_add, Nat.reduceAdd] at hf146_1); (try clear hM146); clear hcl146 hcc146 hfr146) | ((with_reducible refine gate_store (t := 81) (p := 126) rfl ?_); refine store_event (t := 81) (p := 126) (v := ?vo_w147) (w1 := ((w145.setCell ⟨go142, 0, none⟩ (.int .i64 t344)).setCell ⟨go142, 1, none⟩ (.int .i64 6))) ?hg ?ho ?hn ?hr ?_; (case ho => rfl); (case hg => rfl); (case hn => rfl); (case hr => first | (go_simp; done) | (go_simp; rfl)); intro w147 hw; have hg : w145.grownBy w147 (some go142) := (by rw [hw]; exact HP146.2); have hp_ : Kd.R k81 81 w147 w.heap.size (fun _ => True) (.slice (some ⟨go142, 0, none⟩) x13_117.length co142) y346 := (by rw [hw, Ny346.out]; exact HP146.1); clear HP146; replace HI0 := Aside0.mk (IsS124.grown (IsS124.below HI0.out lt_) hg (IsS124.own_ne HI0.out HO_13.out (by decide))); replace HB := Aside0.mk ((by rw [hw]; exact below_set (below_set (HB.out) (Nat.le_trans HL.out GB142.out)) (Nat.le_trans HL.out GB142.out) : Below w0.heap.size w0 w147)); replace HK := Aside0.mk (KeepBut.trans (keep_at HK.out) (KeepBut.of_grown hg g) (Kd.R_base2 HO_13.out)); replace HO_13 := Aside0.mk (hp_); clear hg hw hp_))
     go_ret
     exact ⟨_, by first | rfl | (simp [errW_none, errW_some] <;> rfl) | (simp only [← hji4, ← hji5]; first | rfl | (simp [errW_none, errW_some] <;> rfl)) | (simp [*, errW_none, errW_some] <;> rfl), by (with_reducible repeat (first | apply Kd.R_alloc | apply Kd.R_drewN | apply Kd.R_drew)); exact HO_13.out, IsS124.below HI0.out lt_, below_at HB.out, keep_at HK.out⟩
   rw [if_pos c29] at H
   have c29b0 : decide (1 < (x7_2.length : Int)) = true := decide_eq_true c29
   have c29b1 : decide (1 < x7_2.length) = true := decide_eq_true (by omega)
   clear c29
   replace H := Option.bind_eq_some_iff.mp H
   obtain ⟨⟨t231, t232⟩, A300, H⟩ := H
   try dsimp only at H
   have A30 := Aside0.mk A300
   clear A300
   by_cases c31 : x9_2 > 0
   rotate_left
   ·rw [if_neg c31] at H
    have c31b0 : decide (0 < x9_2) = false := decide_eq_false c31
    clear c31
    obtain ⟨y284, hy284⟩ : ∃ y_ : List (S81), y_ = (([] : List (S81))) := ⟨_, rfl⟩
    replace H : (if 0 ≤ t231 then (if t231 < (x7_2.length : Int) then (if y284.length + (rd_Lparts x7_2 t231).length < 8796093022208 then ((some (y284 ++ (rd_Lparts x7_2 t231) : List (S81))).bind fun y288 => (if 0 ≤ (wrap64 (t231 + 1)) then (if (wrap64 (t231 + 1)) < (x7_2.length : Int) then (if y288.length + (rd_Lparts x7_2 (wrap64 (t231 + 1))).length < 8796093022208 then ((some (y288 ++ (rd_Lparts x7_2 (wrap64 (t231 + 1))) : List (S81))).bind fun y292 => ((spec_l20Rd_pick.f k2 s0_0 t232 3).bind fun bt295 => (if y292.length < 8796093022208 then ((some (([] : List (List (S81))) : List (List (S81)))).bind fun y300 => (if t231 ≤ (x7_2.length : Int) then ((some (x7_2.take (t231 : Int).toNat : List (List (S81)))).bind fun y303 => (if y300.length + y303.length < 5864062014805 then ((some (y300 ++ y303 : List (List (S81)))).bind fun y308 => (if y308.length < 5864062014805 then ((some (y308 ++ [(y292 ++ [(⟨wrap64 (3 + bt295.1), 0⟩ : S81)])] : List (List (S81)))).bind fun y311 => (if 0 ≤ (wrap64 (t231 + 2)) then (if (wrap64 (t231 + 2)) ≤ (x7_2.length : Int) then ((some (x7_2.drop ((wrap64 (t231 + 2)) : Int).toNat : List (List (S81)))).bind fun y314 => (if y311.length + y314.length < 5864062014805 then (spec_l20Term.l1 k2 a2 (y311 ++ y314) x9_2 s0_0 bt295.2) else (none))) else (none)) else (none))) else (none))) else (none))) else (none))) else (none)))) else (none)) else (none)) else (none))) else (none)) else (none)) else (none)) = some (r1, r2) := by first | (rw [hy284]; exact H) | exact H
    have Ny284 := Aside0.mk hy284
    clear hy284
    by_cases c82 : 0 ≤ t231
    rotate_left
    ·rw [if_neg c82] at H
     exact absurd H (by simp)
    rw [if_pos c82] at H
    have c82b0 : decide (0 ≤ t231) = true := decide_eq_true c82
    clear c82
    by_cases c83 : t231 < (x7_2.length : Int)
    rotate_left
    ·rw [if_neg c83] at H
     exact absurd H (by simp)
    rw [if_pos c83] at H
    have c83b0 : decide (t231 < (x7_2.length : Int)) = true := decide_eq_true c83
    clear c83
    by_cases c84 : y284.length + (rd_Lparts x7_2 t231).length < 8796093022208
    rotate_left
    ·rw [if_neg c84] at H
     exact absurd H (by simp)
    rw [if_pos c84] at H
    have LMc84 := Aside0.mk c84
    clear c84
    obtain ⟨y288, hy288⟩ : ∃ y_ : List (S81), y_ = (y284 ++ (rd_Lparts x7_2 t231)) := ⟨_, rfl⟩
    replace H : (if 0 ≤ (wrap64 (t231 + 1)) then (if (wrap64 (t231 + 1)) < (x7_2.length : Int) then (if y288.length + (rd_Lparts x7_2 (wrap64 (t231 + 1))).length < 8796093022208 then ((some (y288 ++ (rd_Lparts x7_2 (wrap64 (t231 + 1))) : List (S81))).bind fun y292 => ((spec_l20Rd_pick.f k2 s0_0 t232 3).bind fun bt295 => (if y292.length < 8796093022208 then ((some (([] : List (List (S81))) : List (List (S81)))).bind fun y300 => (if t231 ≤ (x7_2.length : Int) then ((some (x7_2.take (t231 : Int).toNat : List (List (S81)))).bind fun y303 => (if y300.length + y303.length < 5864062014805 then ((some (y300 ++ y303 : List (List (S81)))).bind fun y308 => (if y308.length < 5864062014805 then ((some (y308 ++ [(y292 ++ [(⟨wrap64 (3 + bt295.1), 0⟩ : S81)])] : List (List (S81)))).bind fun y311 => (if 0 ≤ (wrap64 (t231 + 2)) then (if (wrap64 (t231 + 2)) ≤ (x7_2.length : Int) then ((some (x7_2.drop ((wrap64 (t231 + 2)) : Int).toNat : List (List (S81)))).bind fun y314 => (if y311.length + y314.length < 5864062014805 then (spec_l20Term.l1 k2 a2 (y311 ++ y314) x9_2 s0_0 bt295.2) else (none))) else (none)) else (none))) else (none))) else (none))) else (none))) else (none)))) else (none)) else (none)) else (none)) = some (r1, r2) := by first | (rw [hy288]; exact H) | exact H
    have Ny288 := Aside0.mk hy288
    clear hy288
    obtain ⟨ji85, hji85⟩ : ∃ j_ : Int, (wrap64 (t231 + 1)) = j_ := ⟨_, rfl⟩
    replace H : (if 0 ≤ (ji85) then (if (ji85) < (x7_2.length : Int) then (if y288.length + (rd_Lparts x7_2 (ji85)).length < 8796093022208 then ((some (y288 ++ (rd_Lparts x7_2 (ji85)) : List (S81))).bind fun y292 => ((spec_l20Rd_pick.f k2 s0_0 t232 3).bind fun bt295 => (if y292.length < 8796093022208 then ((some (([] : List (List (S81))) : List (List (S81)))).bind fun y300 => (if t231 ≤ (x7_2.length : Int) then ((some (x7_2.take (t231 : Int).toNat : List (List (S81)))).bind fun y303 => (if y300.length + y303.length < 5864062014805 then ((some (y300 ++ y303 : List (List (S81)))).bind fun y308 => (if y308.length < 5864062014805 then ((some (y308 ++ [(y292 ++ [(⟨wrap64 (3 + bt295.1), 0⟩ : S81)])] : List (List (S81)))).bind fun y311 => (if 0 ≤ (wrap64 (t231 + 2)) then (if (wrap64 (t231 + 2)) ≤ (x7_2.length : Int) then ((some (x7_2.drop ((wrap64 (t231 + 2)) : Int).toNat : List (List (S81)))).bind fun y314 => (if y311.length + y314.length < 5864062014805 then (spec_l20Term.l1 k2 a2 (y311 ++ y314) x9_2 s0_0 bt295.2) else (none))) else (none)) else (none))) else (none))) else (none))) else (none))) else (none)))) else (none)) else (none)) else (none)) = some (r1, r2) := by first | (rw [hji85] at H; exact H) | (simp only [hji85] at H ⊢; exact H)
    (try rw [hji85] at A30)
    have hji85w : (IntKind.i64.wrap (t231 + 1)) = ji85 := (i64_w _).trans hji85
    by_cases c86 : 0 ≤ (ji85)
    rotate_left
    ·rw [if_neg c86] at H
     exact absurd H (by simp)
    rw [if_pos c86] at H
    have c86b0 : decide (0 ≤ (ji85)) = true := decide_eq_true c86
    clear c86
    by_cases c87 : (ji85) < (x7_2.length : Int)
    rotate_left
    ·rw [if_neg c87] at H
     exact absurd H (by simp)
    rw [if_pos c87] at H
    have c87b0 : decide ((ji85) < (x7_2.length : Int)) = true := decide_eq_true c87
    clear c87
    by_cases c88 : y288.length + (rd_Lparts x7_2 (ji85)).length < 8796093022208
    rotate_left
    ·rw [if_neg c88] at H
     exact absurd H (by simp)
    rw [if_pos c88] at H
    have LMc88 := Aside0.mk c88
    clear c88
    obtain ⟨y292, hy292⟩ : ∃ y_ : List (S81), y_ = (y288 ++ (rd_Lparts x7_2 (ji85))) := ⟨_, rfl⟩
    replace H : ((spec_l20Rd_pick.f k2 s0_0 t232 3).bind fun bt295 => (if y292.length < 8796093022208 then ((some (([] : List (List (S81))) : List (List (S81)))).bind fun y300 => (if t231 ≤ (x7_2.length : Int) then ((some (x7_2.take (t231 : Int).toNat : List (List (S81)))).bind fun y303 => (if y300.length + y303.length < 5864062014805 then ((some (y300 ++ y303 : List (List (S81)))).bind fun y308 => (if y308.length < 5864062014805 then ((some (y308 ++ [(y292 ++ [(⟨wrap64 (3 + bt295.1), 0⟩ : S81)])] : List (List (S81)))).bind fun y311 => (if 0 ≤ (wrap64 (t231 + 2)) then (if (wrap64 (t231 + 2)) ≤ (x7_2.length : Int) then ((some (x7_2.drop ((wrap64 (t231 + 2)) : Int).toNat : List (List (S81)))).bind fun y314 => (if y311.length + y314.length < 5864062014805 then (spec_l20Term.l1 k2 a2 (y311 ++ y314) x9_2 s0_0 bt295.2) else (none))) else (none)) else (none))) else (none))) else (none))) else (none))) else (none))) = some (r1, r2) := by first | (rw [hy292]; exact H) | exact H
    have Ny292 := Aside0.mk hy292
    clear hy292
    replace H := Option.bind_eq_some_iff.mp H
    obtain ⟨⟨t295, t296⟩, A890, H⟩ := H
    try dsimp only at H
    have A89 := Aside0.mk A890
    clear A890
    by_cases c90 : y292.length < 8796093022208
    rotate_left
    ·rw [if_neg c90] at H
     exact absurd H (by simp)
    rw [if_pos c90] at H
    have LMc90 := Aside0.mk c90
    clear c90
    obtain ⟨y297, hy297⟩ : ∃ y_ : List (S81), y_ = (y292 ++ [(⟨wrap64 (3 + t295), 0⟩ : S81)]) := ⟨_, rfl⟩
    replace H : ((some (([] : List (List (S81))) : List (List (S81)))).bind fun y300 => (if t231 ≤ (x7_2.length : Int) then ((some (x7_2.take (t231 : Int).toNat : List (List (S81)))).bind fun y303 => (if y300.length + y303.length < 5864062014805 then ((some (y300 ++ y303 : List (List (S81)))).bind fun y308 => (if y308.length < 5864062014805 then ((some (y308 ++ [y297] : List (List (S81)))).bind fun y311 => (if 0 ≤ (wrap64 (t231 + 2)) then (if (wrap64 (t231 + 2)) ≤ (x7_2.length : Int) then ((some (x7_2.drop ((wrap64 (t231 + 2)) : Int).toNat : List (List (S81)))).bind fun y314 => (if y311.length + y314.length < 5864062014805 then (spec_l20Term.l1 k2 a2 (y311 ++ y314) x9_2 s0_0 t296) else (none))) else (none)) else (none))) else (none))) else (none))) else (none))) = some (r1, r2) := by first | (rw [hy297]; exact H) | exact H
    have Ny297 := Aside0.mk hy297
    clear hy297
    obtain ⟨y300, hy300⟩ : ∃ y_ : List (List (S81)), y_ = (([] : List (List (S81)))) := ⟨_, rfl⟩
    replace H : (if t231 ≤ (x7_2.length : Int) then ((some (x7_2.take (t231 : Int).toNat : List (List (S81)))).bind fun y303 => (if y300.length + y303.length < 5864062014805 then ((some (y300 ++ y303 : List (List (S81)))).bind fun y308 => (if y308.length < 5864062014805 then ((some (y308 ++ [y297] : List (List (S81)))).bind fun y311 => (if 0 ≤ (wrap64 (t231 + 2)) then (if (wrap64 (t231 + 2)) ≤ (x7_2.length : Int) then ((some (x7_2.drop ((wrap64 (t231 + 2)) : Int).toNat : List (List (S81)))).bind fun y314 => (if y311.length + y314.length < 5864062014805 then (spec_l20Term.l1 k2 a2 (y311 ++ y314) x9_2 s0_0 t296) else (none))) else (none)) else (none))) else (none))) else (none))) else (none)) = some (r1, r2) := by first | (rw [hy300]; exact H) | exact H
    have Ny300 := Aside0.mk hy300
    clear hy300
    have c91b0 := eq_true (of_decide_eq_true (by first | (with_reducible assumption) | assumption) : 0 ≤ t231)
    by_cases c92 : t231 ≤ (x7_2.length : Int)
    rotate_left
    ·rw [if_neg c92] at H
     exact absurd H (by simp)
    rw [if_pos c92] at H
    have c92b0 := eq_true c92
    have c92b1 : decide (t231 ≤ (x7_2.length : Int)) = true := decide_eq_true c92
    clear c92
    obtain ⟨y303, hy303⟩ : ∃ y_ : List (List (S81)), y_ = (x7_2.take (t231 : Int).toNat) := ⟨_, rfl⟩
    replace H : (if y300.length + y303.length < 5864062014805 then ((some (y300 ++ y303 : List (List (S81)))).bind fun y308 => (if y308.length < 5864062014805 then ((some (y308 ++ [y297] : List (List (S81)))).bind fun y311 => (if 0 ≤ (wrap64 (t231 + 2)) then (if (wrap64 (t231 + 2)) ≤ (x7_2.length : Int) then ((some (x7_2.drop ((wrap64 (t231 + 2)) : Int).toNat : List (List (S81)))).bind fun y314 => (if y311.length + y314.length < 5864062014805 then (spec_l20Term.l1 k2 a2 (y311 ++ y314) x9_2 s0_0 t296) else (none))) else (none)) else (none))) else (none))) else (none)) = some (r1, r2) := by first | (rw [hy303]; exact H) | exact H
    have Ny303 := Aside0.mk hy303
    clear hy303
    by_cases c93 : y300.length + y303.length < 5864062014805
    rotate_left
    ·rw [if_neg c93] at H
     exact absurd H (by simp)
    rw [if_pos c93] at H
    have LMc93 := Aside0.mk c93
    clear c93
    obtain ⟨y308, hy308⟩ : ∃ y_ : List (List (S81)), y_ = (y300 ++ y303) := ⟨_, rfl⟩
    replace H : (if y308.length < 5864062014805 then ((some (y308 ++ [y297] : List (List (S81)))).bind fun y311 => (if 0 ≤ (wrap64 (t231 + 2)) then (if (wrap64 (t231 + 2)) ≤ (x7_2.length : Int) then ((some (x7_2.drop ((wrap64 (t231 + 2)) : Int).toNat : List (List (S81)))).bind fun y314 => (if y311.length + y314.length < 5864062014805 then (spec_l20Term.l1 k2 a2 (y311 ++ y314) x9_2 s0_0 t296) else (none))) else (none)) else (none))) else (none)) = some (r1, r2) := by first | (rw [hy308]; exact H) | exact H
    have Ny308 := Aside0.mk hy308
    clear hy308
    by_cases c94 : y308.length < 5864062014805
    rotate_left
    ·rw [if_neg c94] at H
     exact absurd H (by simp)
    rw [if_pos c94] at H
    have LMc94 := Aside0.mk c94
    clear c94
    obtain ⟨y311, hy311⟩ : ∃ y_ : List (List (S81)), y_ = (y308 ++ [y297]) := ⟨_, rfl⟩
    replace H : (if 0 ≤ (wrap64 (t231 + 2)) then (if (wrap64 (t231 + 2)) ≤ (x7_2.length : Int) then ((some (x7_2.drop ((wrap64 (t231 + 2)) : Int).toNat : List (List (S81)))).bind fun y314 => (if y311.length + y314.length < 5864062014805 then (spec_l20Term.l1 k2 a2 (y311 ++ y314) x9_2 s0_0 t296) else (none))) else (none)) else (none)) = some (r1, r2) := by first | (rw [hy311]; exact H) | exact H
    have Ny311 := Aside0.mk hy311
    clear hy311
    obtain ⟨ji95, hji95⟩ : ∃ j_ : Int, (wrap64 (t231 + 2)) = j_ := ⟨_, rfl⟩
    replace H : (if 0 ≤ (ji95) then (if (ji95) ≤ (x7_2.length : Int) then ((some (x7_2.drop ((ji95) : Int).toNat : List (List (S81)))).bind fun y314 => (if y311.length + y314.length < 5864062014805 then (spec_l20Term.l1 k2 a2 (y311 ++ y314) x9_2 s0_0 t296) else (none))) else (none)) else (none)) = some (r1, r2) := by first | (rw [hji95] at H; exact H) | (simp only [hji95] at H ⊢; exact H)
    (try rw [hji95] at A30)
    (try rw [hji95] at A89)
    have hji95w : (IntKind.i64.wrap (t231 + 2)) = ji95 := (i64_w _).trans hji95
    by_cases c96 : 0 ≤ (ji95)
    rotate_left
    ·rw [if_neg c96] at H
     exact absurd H (by simp)
    rw [if_pos c96] at H
    have c96b0 := eq_true c96
    have c96b1 : decide (0 ≤ (ji95)) = true := decide_eq_true c96
    clear c96
    by_cases c97 : (ji95) ≤ (x7_2.length : Int)
    rotate_left
    ·rw [if_neg c97] at H
     exact absurd H (by simp)
    rw [if_pos c97] at H
    have c97b0 := eq_true c97
    have c97b1 : decide ((ji95) ≤ (x7_2.length : Int)) = true := decide_eq_true c97
    clear c97
    obtain ⟨y314, hy314⟩ : ∃ y_ : List (List (S81)), y_ = (x7_2.drop ((ji95) : Int).toNat) := ⟨_, rfl⟩
    replace H : (if y311.length + y314.length < 5864062014805 then (spec_l20Term.l1 k2 a2 (y311 ++ y314) x9_2 s0_0 t296) else (none)) = some (r1, r2) := by first | (rw [hy314]; exact H) | exact H
    have Ny314 := Aside0.mk hy314
    clear hy314
    by_cases c98 : y311.length + y314.length < 5864062014805
    rotate_left
    ·rw [if_neg c98] at H
     exact absurd H (by simp)
    rw [if_pos c98] at H
    have LMc98 := Aside0.mk c98
    clear c98
    obtain ⟨y319, hy319⟩ : ∃ y_ : List (List (S81)), y_ = (y311 ++ y314) := ⟨_, rfl⟩
    replace H : (spec_l20Term.l1 k2 a2 y319 x9_2 s0_0 t296) = some (r1, r2) := by first | (rw [hy319]; exact H) | exact H
    have Ny319 := Aside0.mk hy319
    clear hy319
    have H' := Aside0.mk H
    clear H
    obtain ⟨Ao99, co99, eo99⟩ := Kd.N_slice HO_7.out
    subst eo99
    go_wp2_with (first | ((with_reducible refine gate_callee (f := 107) rfl ?_); refine goesL_ (some 52) rfl rfl Try.func107 (by kernel_rfl) rfl #[.pointer (some ⟨g, 0, none⟩), .int .i64 (wrap64 ((x7_2.length : Int) - 1))] rfl (by (try simp only [List.map_toArray, List.map_cons, List.map_nil]); first | done | rfl | (simp only [List.length_drop, List.length_take]; rfl)) ?_; (with_reducible refine (spec_l20Rd_pick.calls k2 g s0_0 x1001_2 (wrap64 ((x7_2.length : Int) - 1)) t231 t232 w0 _ ?side1 ?side2 A30.out).mono ?_); (case side1 => exact IsS124.below HI0.out lt_); (case side2 => exact below_at HB.out); rintro e w100 ⟨rfl, hi, hb, hk⟩; refine ⟨_, rfl, ?_⟩; replace HO_7 := Aside0.mk (Kd.N_mono (Kd.N_keep (Kd.N_mono (ok := fun k_ => k_ ≠ g) (Kd.N_below HO_7.out lt_) (fun k_ hk_ => (⟨hk_, hk_⟩ : _ ∧ k_ ≠ g))) hk (fun _ h => h.2)) (fun _ h => h.1)); replace HK := Aside0.mk (KeepBut.trans (keep_at HK.out) hk (.inl rfl)); replace HB := Aside0.mk (hb); replace HI0 := Aside0.mk (hi); (try clear hb); (try clear hb2); (try clear hk); (try clear hi)))
    replace HO_7 := Aside0.mk (Kd.N_drew HO_7.out)
    replace HI0 := Aside0.mk (IsS124.drew HI0.out)
    replace HK := Aside0.mk (keep_drew HK.out)
    replace HB := Aside0.mk (below_drew1 HB.out)
    have p287 : 0 ≤ (t231 : Int) := of_decide_eq_true (by first | (with_reducible assumption) | assumption)
    have q287 : t231 < (x7_2.length : Int) := of_decide_eq_true (by first | (with_reducible assumption) | assumption)
    obtain ⟨ad287, A287_0, c287_0, e287, hx287_0, hl287_0, hi287_0⟩ := at_Lparts (own_C (Kd.N_reads' HO_7.out).2.2) t231 p287 q287
    cases e287
    obtain ⟨ce287, hce287, hMe287, hcc287⟩ := Kd.N_get HO_7.out [] t231 p287 (by first | exact q287 | exact of_decide_eq_true (by first | (with_reducible assumption) | assumption) | (have e_ := (Kd.N_reads' HO_7.out).1; omega))
    obtain ⟨ua287_0, uc287_0, rfl, ul287_0, ge287_0⟩ := FK_own_open hMe287
    have hv287_0 := hcc287 0 _ rfl
    rw [Nat.add_zero, show ((ownd 81 k81 w.heap.size)).sz = 1 from rfl, Nat.mul_one] at hv287_0
    replace hv287_0 := Option.some.inj (hv287_0.symm.trans hx287_0)
    injection hv287_0 with hva_ hvn_ hvc_
    rw [hva_] at ge287_0
    rw [hvc_] at ul287_0
    have HL287_0 := Aside0.mk (show Kd.V k81 81 _ w.heap.size _ _ (rd_Lparts x7_2 t231) from Kd.V_mk ul287_0 ge287_0)
    clear hva_ hvn_ hvc_ ge287_0 ul287_0
    clear hcc287 hce287
    have HR287_0 := Aside0.mk hi287_0
    have HC287_0 := Aside0.mk hl287_0
    clear hi287_0 hl287_0
    replace p287 := eq_true p287
    replace q287 := eq_true q287
    have p291 : 0 ≤ ((ji85) : Int) := of_decide_eq_true (by first | (with_reducible assumption) | assumption)
    have q291 : (ji85) < (x7_2.length : Int) := of_decide_eq_true (by first | (with_reducible assumption) | assumption)
    obtain ⟨ad291, A291_0, c291_0, e291, hx291_0, hl291_0, hi291_0⟩ := at_Lparts (own_C (Kd.N_reads' HO_7.out).2.2) (ji85) p291 q291
    obtain rfl : ad287 = ad291 := (by injection e291)
    obtain ⟨ce291, hce291, hMe291, hcc291⟩ := Kd.N_get HO_7.out [] (ji85) p291 (by first | exact q291 | exact of_decide_eq_true (by first | (with_reducible assumption) | assumption) | (have e_ := (Kd.N_reads' HO_7.out).1; omega))
    obtain ⟨ua291_0, uc291_0, rfl, ul291_0, ge291_0⟩ := FK_own_open hMe291
    have hv291_0 := hcc291 0 _ rfl
    rw [Nat.add_zero, show ((ownd 81 k81 w.heap.size)).sz = 1 from rfl, Nat.mul_one] at hv291_0
    replace hv291_0 := Option.some.inj (hv291_0.symm.trans hx291_0)
    injection hv291_0 with hva_ hvn_ hvc_
    rw [hva_] at ge291_0
    rw [hvc_] at ul291_0
    have HL291_0 := Aside0.mk (show Kd.V k81 81 _ w.heap.size _ _ (rd_Lparts x7_2 (ji85)) from Kd.V_mk ul291_0 ge291_0)
    clear hva_ hvn_ hvc_ ge291_0 ul291_0
    clear hcc291 hce291
    have HR291_0 := Aside0.mk hi291_0
    have HC291_0 := Aside0.mk hl291_0
    clear hi291_0 hl291_0
    replace p291 := eq_true p291
    replace q291 := eq_true q291
    refine start_ (n := 19) (S := fun w' => w'.cell? (ad287.add (t231).toNat) = some (.slice A287_0 (rd_Lparts x7_2 t231).length c287_0) ∧ w'.cell? (ad287.add ((ji85)).toNat) = some (.slice A291_0 (rd_Lparts x7_2 (ji85)).length c291_0)) (ds := [11, 13, 16, 17]) #[false, false, false, false, false, false, false, false, false, false, false, false, false, false, false, false, false, false, false] (by kernel_rfl) rfl rfl ⟨hx287_0, hx291_0⟩ (fun hHeld => ?_)
    generalize w100.drew = wd_ at HO_7 HI0 HK HB HL287_0 HL291_0 HR287_0 HR291_0 hx287_0 hx291_0 hHeld ⊢
    refine pure_ (i := 1) (N := some 75) (v := ?_) (a' := ?_) #[false, true, false, false, false, false, false, false, false, false, false, false, false, false, false, false, false, false, false] rfl rfl (by kernel_rfl) (fun _ _ _ h => h) (Or.inl ⟨by rfl, ?_⟩) ?_ ?_
    rotate_left
    ·intro w'
     go_simp
     with_reducible rfl
    rotate_left
    ·simp only [Act.put, List.setIfInBounds_toArray, List.set_cons_zero, List.set_cons_succ, i64_w, i32_w]
     rfl
    refine pure_ (i := 2) (N := some 76) (v := ?_) (a' := ?_) #[false, true, true, false, false, false, false, false, false, false, false, false, false, false, false, false, false, false, false] rfl rfl (by kernel_rfl) (fun _ _ _ h => h) (Or.inl ⟨by rfl, ?_⟩) ?_ ?_
    rotate_left
    ·intro w'
     go_simp
     with_reducible rfl
    rotate_left
    ·simp only [Act.put, List.setIfInBounds_toArray, List.set_cons_zero, List.set_cons_succ, i64_w, i32_w]
     rfl
    refine pure_ (i := 3) (N := some 77) (v := ?_) (a' := ?_) #[false, true, true, true, false, false, false, false, false, false, false, false, false, false, false, false, false, false, false] rfl rfl (by kernel_rfl) (fun _ _ _ h => h) (Or.inl ⟨by rfl, ?_⟩) ?_ ?_
    rotate_left
    ·intro w'
     go_simp
     with_reducible rfl
    rotate_left
    ·simp only [Act.put, List.setIfInBounds_toArray, List.set_cons_zero, List.set_cons_succ, i64_w, i32_w]
     rfl
    refine pure_ (i := 6) (N := some 80) (v := ?_) (a' := ?_) #[false, true, true, true, false, false, true, false, false, false, false, false, false, false, false, false, false, false, false] rfl rfl (by kernel_rfl) (fun _ _ _ h => h) (Or.inl ⟨by rfl, ?_⟩) ?_ ?_
    rotate_left
    ·intro w'
     go_simp
     with_reducible rfl
    rotate_left
    ·simp only [Act.put, List.setIfInBounds_toArray, List.set_cons_zero, List.set_cons_succ, i64_w, i32_w]
     rfl
    refine pure_ (i := 7) (N := some 81) (v := ?_) (a' := ?_) #[false, true, true, true, false, false, true, true, false, false, false, false, false, false, false, false, false, false, false] rfl rfl (by kernel_rfl) (fun _ _ _ h => h) (Or.inl ⟨by rfl, ?_⟩) ?_ ?_
    rotate_left
    ·intro w'
     go_simp
     with_reducible rfl
    rotate_left
    ·simp only [Act.put, List.setIfInBounds_toArray, List.set_cons_zero, List.set_cons_succ, i64_w, i32_w]
     rfl
    refine pure_ (i := 8) (N := some 82) (v := ?_) (a' := ?_) #[false, true, true, true, false, false, true, true, true, false, false, false, false, false, false, false, false, false, false] rfl rfl (by kernel_rfl) (fun _ _ _ h => h) (Or.inl ⟨by rfl, ?_⟩) ?_ ?_
    rotate_left
    ·intro w'
     go_simp
     with_reducible rfl
    rotate_left
    ·simp only [Act.put, List.setIfInBounds_toArray, List.set_cons_zero, List.set_cons_succ, i64_w, i32_w]
     rfl
    refine pure_ (i := 9) (N := some 83) (v := ?_) (a' := ?_) #[false, true, true, true, false, false, true, true, true, true, false, false, false, false, false, false, false, false, false] rfl rfl (by kernel_rfl) (fun _ _ _ h => h) (Or.inl ⟨by rfl, ?_⟩) ?_ ?_
    rotate_left
    ·intro w'
     go_simp
     with_reducible rfl
    rotate_left
    ·simp only [Act.put, List.setIfInBounds_toArray, List.set_cons_zero, List.set_cons_succ, i64_w, i32_w]
     rfl
    refine pure_ (i := 12) (N := some 86) (v := ?_) (a' := ?_) #[false, true, true, true, false, false, true, true, true, true, false, false, true, false, false, false, false, false, false] rfl rfl (by kernel_rfl) (fun _ _ _ h => h) (Or.inl ⟨by rfl, ?_⟩) ?_ ?_
    rotate_left
    ·intro w'
     go_simp
     with_reducible rfl
    rotate_left
    ·simp only [Act.put, List.setIfInBounds_toArray, List.set_cons_zero, List.set_cons_succ, i64_w, i32_w]
     rfl
    refine take_ (i := 4) (N := some 78) (v := ?_) (a' := ?_) #[false, true, true, true, true, false, true, true, true, true, false, false, true, false, false, false, false, false, false] rfl rfl (by kernel_rfl) (fun _ _ _ h => h) (Or.inl ⟨by rfl, ?_⟩) hHeld ?_ ?_
    rotate_left
    ·rintro w' ⟨s0, s1⟩
     go_simp
     with_reducible rfl
    rotate_left
    ·simp only [Act.put, List.setIfInBounds_toArray, List.set_cons_zero, List.set_cons_succ, i64_w, i32_w]
     rfl
    refine take_ (i := 10) (N := some 84) (v := ?_) (a' := ?_) #[false, true, true, true, true, false, true, true, true, true, true, false, true, false, false, false, false, false, false] rfl rfl (by kernel_rfl) (fun _ _ _ h => h) (Or.inl ⟨by rfl, ?_⟩) hHeld ?_ ?_
    rotate_left
    ·rintro w' ⟨s0, s1⟩
     go_simp
     with_reducible rfl
    rotate_left
    ·simp only [Act.put, List.setIfInBounds_toArray, List.set_cons_zero, List.set_cons_succ, i64_w, i32_w]
     rfl
    refine one_ (i := 0) (N := some 74) #[true, true, true, true, true, false, true, true, true, true, true, false, true, false, false, false, false, false, false] rfl rfl (by kernel_rfl) (by decide) (fun K hK => ?_)
    refine Kd.R_lit_step k81 _ 81 (by rfl) (N := 74) rfl (xs := ([] : List (S81))) (inner := []) (ok := fun _ => True) (okp := fun _ => True) ?hr ?hp (fun _ hk => hk) trivial (Below.refl _ _) (Nat.le_refl _) (by simp) ?_
    (case hr => first | (go_simp; done) | (go_simp; rfl))
    (case hp => exact (Reps.none _ _))
    intro v285 w101 ho102 hb hg_ hnew_
    clear hg_ hnew_
    (first | rw [← Ny284.out] at ho102 | (simp only [Int.reduceToNat] at ho102; rw [← Ny284.out] at ho102))
    have nl1_ := Aside0.mk (Kd.V_elder' HL287_0.out (Kd.R_base ho102) hb)
    have nl2_ := Aside0.mk (Kd.V_elder' HL291_0.out (Kd.R_base ho102) hb)
    have ns1_ := cell_old hHeld.1 hb
    have ns2_ := cell_old hHeld.2 hb
    clear HL287_0
    clear HL291_0
    clear hHeld
    have HL287_0 := nl1_
    have HL291_0 := nl2_
    clear nl1_ nl2_
    replace HO_7 := Aside0.mk (Kd.N_elder' (Kd.N_below HO_7.out lt_) (Kd.R_base ho102) hb)
    have HO286 := Aside0.mk (Kd.R_lower ho102 (keep_size (w := w) (g := g) (row := none) (keep_at HK.out)))
    replace HI0 := Aside0.mk (IsS124.below (IsS124.below HI0.out lt_) hb)
    replace HK := Aside0.mk (KeepBut.trans (keep_at HK.out) (KeepBut.of_below hb g none) (.inl rfl))
    replace HB := Aside0.mk (below_step (below_at HB.out) hb)
    clear hb ho102
    refine hK.out _ _ ⟨ns1_, ns2_⟩ (fun hHeld => ?_)
    clear hK K
    refine norm_ (a' := ?_) ?_ ?_
    rotate_left
    ·show Act.put _ (some 74) _ = _
     simp only [Act.put, List.setIfInBounds_toArray, List.set_cons_zero, List.set_cons_succ, i64_w, i32_w]
     rfl
    clear ns1_ ns2_
    refine one_ (i := 5) (N := some 79) #[true, true, true, true, true, true, true, true, true, true, true, false, true, false, false, false, false, false, false] rfl rfl (by kernel_rfl) (by decide) (fun K hK => ?_)
    refine Kd.R_append_rows_step k81 w.heap.size (by rfl) (.tmp 74) (.tmp 78) 56 81 (.agg #[(.int .i64 0), (.int .i64 0)]) 16 rfl Try.underlying56 info81p rfl (by decide) (by omega) v285 y284 (rd_Lparts x7_2 t231) _ _ _ (fun _ => True) (fun _ => False) rfl rfl ?aO ?aR (fun _ _ h => h) (fun _ h => h.elim) ?aF (Below.refl _ _) ?aS ?aL ?_
    (case aR => exact Kd.F_now (Kd.V_F HL287_0.out))
    (case aF => exact (fun _ _ => trivial))
    (case aO => exact (Kd.R_below HO286.out lt_))
    (case aS => exact (keep_size (w := w) (g := g) (row := none) (keep_at HK.out)))
    (case aL => have := LMc84.out; omega)
    intro v289 w103 ho hb hg hat
    rw [← Ny288.out] at ho
    have ns1_ := cell_apart hHeld.1 hg (HO_7.out.1 _ rfl).2
    have ns2_ := cell_apart hHeld.2 hg (HO_7.out.1 _ rfl).2
    clear hHeld
    have n0_ := Aside0.mk (Kd.N_afterv (ok := (fun k_ => k_ ≠ g)) (Kd.N_below HO_7.out lt_) hg hat)
    have n1_ := Aside0.mk (IsS124.grown (IsS124.below HI0.out lt_) hg (IsS124.own_ne HI0.out HO286.out (by decide)))
    have n2_ := Aside0.mk (Kd.V_afterv (ok := (fun k_ => some k_ ≠ (.slice (some ad287) x7_2.length co99 : Value).ownBlock ∧ k_ ≠ g)) (Kd.V_mono HL287_0.out (fun _ hk => ⟨⟨hk.1.2, hk.1.1⟩, hk.2⟩)) hg hat)
    have nl2_ := Aside0.mk (Kd.V_afterv (ok := (fun k_ => some k_ ≠ (.slice (some ad287) x7_2.length co99 : Value).ownBlock ∧ k_ ≠ g)) (Kd.V_mono HL291_0.out (fun _ hk => ⟨⟨hk.1.2, hk.1.1⟩, hk.2⟩)) hg hat)
    have n3_ := Aside0.mk (below_weaken (below_at HB.out) HL.out hb)
    have n4_ := Aside0.mk (KeepBut.trans (keep_at HK.out) (KeepBut.of_grown hg g) (Kd.R_base2 HO286.out))
    have n5_ := Aside0.mk (ho)
    clear HO_7
    clear HI0
    clear HL287_0
    clear HL291_0
    have HL291_0 := nl2_
    clear nl2_
    clear HB
    clear HK
    clear HO286
    have HO_7 := n0_
    have HI0 := n1_
    have HL287_0 := n2_
    have HB := n3_
    have HK := n4_
    have HO290 := n5_
    clear n0_ n1_ n2_ n3_ n4_ n5_
    clear ho hb hg hat
    refine hK.out _ _ ⟨ns1_, ns2_⟩ (fun hHeld => ?_)
    clear hK K
    refine norm_ (a' := ?_) ?_ ?_
    rotate_left
    ·show Act.put _ (some 79) _ = _
     simp only [Act.put, List.setIfInBounds_toArray, List.set_cons_zero, List.set_cons_succ, i64_w, i32_w]
     rfl
    clear ns1_ ns2_
    refine last_ (i := 11) (N := some 85) #[true, true, true, true, true, true, true, true, true, true, true, true, true, false, false, false, false, false, false] rfl rfl (by kernel_rfl) (by decide) (fun K hK => ?_)
    refine Kd.R_append_rows_step k81 w.heap.size (by rfl) (.tmp 79) (.tmp 84) 56 81 (.agg #[(.int .i64 0), (.int .i64 0)]) 16 rfl Try.underlying56 info81p rfl (by decide) (by omega) v289 y288 (rd_Lparts x7_2 (ji85)) _ _ _ (fun _ => True) (fun _ => False) rfl rfl ?aO ?aR (fun _ _ h => h) (fun _ h => h.elim) ?aF (Below.refl _ _) ?aS ?aL ?_
    (case aR => exact Kd.F_now (Kd.V_F HL291_0.out))
    (case aF => exact (fun _ _ => trivial))
    (case aO => exact (Kd.R_below HO290.out lt_))
    (case aS => exact (keep_size (w := w) (g := g) (row := none) (keep_at HK.out)))
    (case aL => have := LMc88.out; omega)
    intro v293 w104 ho hb hg hat
    rw [← Ny292.out] at ho
    replace HO_7 := Aside0.mk (Kd.N_afterv (ok := (fun k_ => k_ ≠ g)) (Kd.N_below HO_7.out lt_) hg hat)
    replace HI0 := Aside0.mk (IsS124.grown (IsS124.below HI0.out lt_) hg (IsS124.own_ne HI0.out HO290.out (by decide)))
    replace HB := Aside0.mk (below_weaken (below_at HB.out) HL.out hb)
    replace HK := Aside0.mk (KeepBut.trans (keep_at HK.out) (KeepBut.of_grown hg g) (Kd.R_base2 HO290.out))
    have HO294 := Aside0.mk (ho)
    (try clear HL287_0 HL291_0 HO290)
    clear ho hb hg hat
    refine hK.out _ _ ?_
    clear hK K
    refine norm_ (a' := ?_) ?_ ?_
    rotate_left
    ·show Act.put _ (some 85) _ = _
     simp only [Act.put, List.setIfInBounds_toArray, List.set_cons_zero, List.set_cons_succ, i64_w, i32_w]
     rfl
    refine last_ (i := 13) (N := some 87) #[true, true, true, true, true, true, true, true, true, true, true, true, true, true, false, false, false, false, false] rfl rfl (by kernel_rfl) (by decide) (fun K hK => ?_)
    refine goes_ Try.func107 (by kernel_rfl) rfl #[.pointer (some ⟨g, 0, none⟩), .int .i64 3] (by rfl) rfl rfl (by (try simp only [List.map_toArray, List.map_cons, List.map_nil]); first | done | rfl | (simp only [List.length_drop, List.length_take]; rfl)) ?_
    (with_reducible refine (spec_l20Rd_pick.calls k2 g s0_0 t232 3 t295 t296 w0 _ ?side1 ?side2 A89.out).mono ?_)
    (case side1 => exact IsS124.below HI0.out lt_)
    (case side2 => exact below_at HB.out)
    rintro e w105 ⟨rfl, hi, hb, hk⟩
    refine ⟨_, rfl, ?_⟩
    replace HO_7 := Aside0.mk (Kd.N_mono (Kd.N_keep (Kd.N_mono (ok := fun k_ => (k_ ≠ g ∧ some k_ ≠ (v293 : Value).ownBlock)) (Kd.N_below HO_7.out lt_) (fun k_ hk_ => (⟨hk_, hk_.1⟩ : _ ∧ k_ ≠ g))) hk (fun _ h => h.2)) (fun _ h => h.1))
    replace HO294 := Aside0.mk (Kd.R_mono (Kd.R_keep (IsS124.apart (show IsS124 w0 _ g s0_0 t232 from IsS124.below HI0.out lt_) (Kd.R_below HO294.out lt_) (by decide)) hk (fun _ h => h.2)) (fun _ h => h.1))
    replace HK := Aside0.mk (KeepBut.trans (keep_at HK.out) hk (.inl rfl))
    replace HB := Aside0.mk (hb)
    replace HI0 := Aside0.mk (hi)
    (try clear HL287_0 HL291_0)
    (try clear hb)
    (try clear hb2)
    (try clear hk)
    (try clear hi)
    refine hK.out _ _ ?_
    clear hK K
    refine norm_ (a' := ?_) ?_ ?_
    rotate_left
    ·show Act.put _ (some 87) _ = _
     simp only [Act.put, List.setIfInBounds_toArray, List.set_cons_zero, List.set_cons_succ, i64_w, i32_w]
     rfl
    refine pure_ (i := 14) (N := some 88) (v := ?_) (a' := ?_) #[true, true, true, true, true, true, true, true, true, true, true, true, true, true, true, false, false, false, false] rfl rfl (by kernel_rfl) (fun _ _ _ h => h) (Or.inl ⟨by rfl, ?_⟩) ?_ ?_
    rotate_left
    ·intro w'
     go_simp
     with_reducible rfl
    rotate_left
    ·simp only [Act.put, List.setIfInBounds_toArray, List.set_cons_zero, List.set_cons_succ, i64_w, i32_w]
     rfl
    refine pure_ (i := 15) (N := some 89) (v := ?_) (a' := ?_) #[true, true, true, true, true, true, true, true, true, true, true, true, true, true, true, true, false, false, false] rfl rfl (by kernel_rfl) (fun _ _ _ h => h) (Or.inl ⟨by rfl, ?_⟩) ?_ ?_
    rotate_left
    ·intro w'
     go_simp
     with_reducible rfl
    rotate_left
    ·simp only [Act.put, List.setIfInBounds_toArray, List.set_cons_zero, List.set_cons_succ, i64_w, i32_w]
     rfl
    refine last_ (i := 16) (N := some 90) #[true, true, true, true, true, true, true, true, true, true, true, true, true, true, true, true, true, false, false] rfl rfl (by kernel_rfl) (by decide) (fun K hK => ?_)
    refine value_ (w1 := ?_) (v := ?_) (by rfl) rfl ?_ ?_
    rotate_left 2
    ·go_simp
     constructor
     ·rfl
     rfl
    refine hK.out _ _ ?_
    clear hK K
    refine norm_ (a' := ?_) ?_ ?_
    rotate_left
    ·show Act.put _ (some 90) _ = _
     simp only [Act.put, List.setIfInBounds_toArray, List.set_cons_zero, List.set_cons_succ, i64_w, i32_w]
     rfl
    refine last_ (i := 17) (N := some 91) #[true, true, true, true, true, true, true, true, true, true, true, true, true, true, true, true, true, true, false] rfl rfl (by kernel_rfl) (by decide) (fun K hK => ?_)
    refine Kd.R_append_step k81 w.heap.size (by rfl) (.tmp 85) (.tmp 90) 56 81 (.agg #[(.int .i64 0), (.int .i64 0)]) 16 rfl Try.underlying56 info81p rfl (by decide) (by omega) v293 y292 (⟨wrap64 (3 + t295), 0⟩ : S81) [.int .i64 (wrap64 (3 + t295)), .int .i64 0] (fun _ => True) (fun _ => False) rfl rfl ?aP (fun _ hk => hk.elim) ?aF ?aO (Below.refl _ _) ?aS ?aL ?_
    (case aP => exact k81_mkM _ _ _ (⟨wrap64 (3 + t295), 0⟩ : S81))
    (case aF => exact (fun _ _ => trivial))
    (case aO => exact (Kd.R_below HO294.out lt_))
    (case aS => exact (keep_size (w := w) (g := g) (row := none) (keep_at HK.out)))
    (case aL => have := LMc90.out; omega)
    intro v298 w106 ho hb hg hat
    rw [← Ny297.out] at ho
    replace HO_7 := Aside0.mk (Kd.N_afterv (ok := (fun k_ => k_ ≠ g)) (Kd.N_below HO_7.out lt_) hg hat)
    replace HI0 := Aside0.mk (IsS124.grown (IsS124.below HI0.out lt_) hg (IsS124.own_ne HI0.out HO294.out (by decide)))
    replace HB := Aside0.mk (below_weaken (below_at HB.out) HL.out hb)
    replace HK := Aside0.mk (KeepBut.trans (keep_at HK.out) (KeepBut.of_grown hg g) (Kd.R_base2 HO294.out))
    have HO299 := Aside0.mk (ho)
    (try clear HL287_0 HL291_0 HO294)
    clear ho hb hg hat
    refine hK.out _ _ ?_
    clear hK K
    refine norm_ (a' := ?_) ?_ ?_
    rotate_left
    ·show Act.put _ (some 91) _ = _
     simp only [Act.put, List.setIfInBounds_toArray, List.set_cons_zero, List.set_cons_succ, i64_w, i32_w]
     rfl
    refine pure_ (i := 18) (N := some 11) (v := ?_) (a' := ?_) #[true, true, true, true, true, true, true, true, true, true, true, true, true, true, true, true, true, true, true] rfl rfl (by kernel_rfl) (fun _ _ _ h => h) (Or.inl ⟨by rfl, ?_⟩) ?_ ?_
    rotate_left
    ·intro w'
     go_simp
     with_reducible rfl
    rotate_left
    ·simp only [Act.put, List.setIfInBounds_toArray, List.set_cons_zero, List.set_cons_succ, i64_w, i32_w]
     rfl
    refine done_ (by kernel_rfl) ?_
    go_wp2_with (first | ((with_reducible refine gate_dst (N := 92) rfl ?_); refine Kd.N_lit (ownd 81 k81 w.heap.size) _ 56 ?hg (N' := 92) ?hd (xs := ([] : List (List (S81)))) (inner := []) (ok := (fun k_ => some k_ ≠ (.slice (some ad287) x7_2.length co99 : Value).ownBlock ∧ some k_ ≠ (v298 : Value).ownBlock ∧ k_ ≠ g)) (okp := (fun k_ => some k_ ≠ (.slice (some ad287) x7_2.length co99 : Value).ownBlock ∧ some k_ ≠ (v298 : Value).ownBlock ∧ k_ ≠ g)) ?hr ?hp (fun _ hk => hk) ((show ∀ k_, w106.heap.size ≤ k_ → (fun k_ => some k_ ≠ (.slice (some ad287) x7_2.length co99 : Value).ownBlock ∧ some k_ ≠ (v298 : Value).ownBlock ∧ k_ ≠ g) k_ from fun k_ hk => ⟨Kd.fresh' (Kd.N_lt (Kd.N_below HO_7.out lt_)) k_ hk, Kd.fresh' (Kd.R_lt (Kd.R_below HO299.out lt_)) k_ hk, IsS124.fresh (IsS124.below HI0.out lt_) k_ hk⟩) _ (Nat.le_refl _)) (Below.refl _ _) (Nat.le_refl _) (by simp) ?_; (case hd => rfl); (case hg => rfl); (case hr => first | (go_simp; done) | (go_simp; rfl)); (case hp => exact (Reps.none _ _)); intro v301 w107 ho108 hb hg_ hnew_; clear hg_ hnew_; (first | rw [← Ny300.out] at ho108 | (simp only [Int.reduceToNat] at ho108; rw [← Ny300.out] at ho108)); replace HO_7 := Aside0.mk (Kd.N_elder' (Kd.N_below HO_7.out lt_) (Kd.N_base ho108) hb); replace HO299 := Aside0.mk (Kd.R_below (Kd.R_below HO299.out lt_) hb); have HO302 := Aside0.mk (Kd.N_lower ho108 (keep_size (w := w) (g := g) (row := none) (keep_at HK.out))); replace HI0 := Aside0.mk (IsS124.below (IsS124.below HI0.out lt_) hb); replace HK := Aside0.mk (KeepBut.trans (keep_at HK.out) (KeepBut.of_below hb g none) (.inl rfl)); replace HB := Aside0.mk (below_step (below_at HB.out) hb); (try clear HL287_0 HL291_0); clear hb ho108; have q109 : (t231 : Int) ≤ ((x7_2.length : Int) : Int) := of_decide_eq_true (by first | (with_reducible assumption) | assumption); obtain ⟨i0109, hi0109, _, hsz109, _⟩ := info_parts info56p; have hroom109 : x7_2.length ≤ co99 := (Kd.N_reads' HO_7.out).2.1; have hC109 : Kd.F (ownd 81 k81 w.heap.size) _ _ (some ad287) x7_2.length x7_2 := (Kd.V_at (base := w.heap.size) (Kd.N_V HO_7.out)).2.2; have hcut109 := cut_to (P := Try.prog) 73 56 .i64 Try.underlying73 hi0109 (some ad287) x7_2.length co99 t231 (of_decide_eq_true (by first | (with_reducible assumption) | assumption)) q109 hroom109; have hr109 := Kd.F_take (m := (t231 : Int).toNat) hC109 (by omega); have hy109 : y303.length = (t231 : Int).toNat := (by rw [Ny303.out, List.length_take]; omega); rw [← Ny303.out] at hr109; rw [← hy109] at hcut109; have HO307 := Aside0.mk (show Kd.V (ownd 81 k81 w.heap.size) 56 _ w.heap.size _ (.slice (some ad287) y303.length co99) y303 from Kd.V_mk (by omega) hr109); have HC307 := Aside0.mk (show y303.length ≤ co99 from by omega); clear hr109 hC109 hroom109 hi0109 hsz109; have KY109 := Aside0.mk hy109; clear hy109; replace q109 := eq_true q109) | ((with_reducible refine gate_builtin (b := .append) (xs := #[.tmp 92, .tmp 95]) rfl ?_); at_builtin; refine Kd.N_append_rows (ownd 81 k81 w.heap.size) w.heap.size rfl (.tmp 92) (.tmp 95) 73 56 (.slice none 0 0) 24 rfl Try.underlying73 info56p rfl Nat.one_pos (by omega) v301 y300 y303 _ _ _ (fun k_ => some k_ ≠ (v298 : Value).ownBlock ∧ k_ ≠ g) (fun k_ => ((fun k_ => some k_ ≠ (v298 : Value).ownBlock ∧ k_ ≠ g)) k_ ∧ some k_ ≠ (v301 : Value).ownBlock) rfl rfl ?aO ?aR (fun _ hk => hk) ?aF (Below.refl _ _) ?aS ?aL ?_; (case aR => exact (by skip; exact Kd.V_F (Kd.V_mono (ok' := (fun k_ => ((fun k_ => some k_ ≠ (v298 : Value).ownBlock ∧ k_ ≠ g)) k_ ∧ some k_ ≠ (v301 : Value).ownBlock)) (HO307.out) (fun k_ hk => ⟨⟨hk.1.2, hk.1.1⟩, hk.2⟩)))); (case aF => exact (fun k_ hk => ⟨Kd.fresh' (Kd.R_lt (Kd.R_below HO299.out lt_)) k_ hk, IsS124.fresh (IsS124.below HI0.out lt_) k_ hk⟩)); (case aO => exact (Kd.N_below (Kd.N_mono HO302.out (fun _ hk => ⟨hk.2.1, hk.2.2⟩)) lt_)); (case aS => exact (keep_size (w := w) (g := g) (row := none) (keep_at HK.out))); (case aL => have := LMc93.out; omega); intro v309 w110 ho hb hg hat; rw [← Ny308.out] at ho; replace HO_7 := Aside0.mk (Kd.N_afterv (ok := (fun k_ => some k_ ≠ (v298 : Value).ownBlock ∧ k_ ≠ g)) (Kd.N_below (Kd.N_mono HO_7.out (fun _ hk => ⟨⟨hk.1.2, hk.1.1⟩, hk.2⟩)) lt_) hg hat); replace HI0 := Aside0.mk (IsS124.grown (IsS124.below HI0.out lt_) hg (IsS124.own_neN HI0.out HO302.out (by decide))); replace HO299 := Aside0.mk (Kd.R_over' (Kd.R_below HO299.out lt_) (Kd.N_typed (Kd.N_below HO302.out lt_)) (by decide) hg); replace HB := Aside0.mk (below_weaken (below_at HB.out) HL.out hb); replace HK := Aside0.mk (KeepBut.trans (keep_at HK.out) (KeepBut.of_grown hg g) (Kd.N_base2 HO302.out)); have HO310 := Aside0.mk (ho); (try clear HL287_0 HL291_0 HO307 HO302); clear ho hb hg hat; obtain ⟨Ao112, co112, eo112⟩ := Kd.R_slice HO299.out; subst eo112) | ((with_reducible refine gate_builtin (b := .append) (xs := #[.tmp 97, .tmp 99]) rfl ?_); at_builtin; refine Kd.N_append (ownd 81 k81 w.heap.size) w.heap.size rfl (.tmp 97) (.tmp 99) 73 56 (.slice none 0 0) 24 rfl Try.underlying73 info56p rfl Nat.one_pos (by omega) v309 y308 y297 [.slice Ao112 y297.length co112] (fun k_ => k_ ≠ g) (fun k_ => ((fun k_ => k_ ≠ g)) k_ ∧ some k_ ≠ (v309 : Value).ownBlock) rfl rfl ?aP (fun _ hk => hk) ?aF ?aO (Below.refl _ _) ?aS ?aL ?_; (case aP => exact (FK_own_mk (Kd.R_mono (ok' := (fun k_ => ((fun k_ => k_ ≠ g)) k_ ∧ some k_ ≠ (v309 : Value).ownBlock)) (IsS124.apart HI0.out (Kd.R_apart' (HO299.out) (Kd.N_typed HO310.out) (by decide)) (by decide)) (fun k_ hk => ⟨hk.2, hk.1.2⟩)))); (case aF => exact (fun k_ hk => IsS124.fresh (IsS124.below HI0.out lt_) k_ hk)); (case aO => exact (Kd.N_below (Kd.N_mono HO310.out (fun _ hk => hk.2)) lt_)); (case aS => exact (keep_size (w := w) (g := g) (row := none) (keep_at HK.out))); (case aL => have := LMc94.out; omega); intro v312 w111 ho hb hg hat; rw [← Ny311.out] at ho; replace HO_7 := Aside0.mk (Kd.N_afterv (ok := (fun k_ => some k_ ≠ (.slice Ao112 y297.length co112 : Value).ownBlock ∧ k_ ≠ g)) (Kd.N_below HO_7.out lt_) hg hat); replace HI0 := Aside0.mk (IsS124.grown (IsS124.below HI0.out lt_) hg (IsS124.own_neN HI0.out HO310.out (by decide))); replace HB := Aside0.mk (below_weaken (below_at HB.out) HL.out hb); replace HK := Aside0.mk (KeepBut.trans (keep_at HK.out) (KeepBut.of_grown hg g) (Kd.N_base2 HO310.out)); have HO313 := Aside0.mk (ho); (try clear HL287_0 HL291_0 HO307 HO310 HO299); clear ho hb hg hat; have q113 : ((ji95) : Int) ≤ ((x7_2.length : Int) : Int) := of_decide_eq_true (by first | (with_reducible assumption) | assumption); obtain ⟨i0113, hi0113, _, hsz113, _⟩ := info_parts info56p; have hroom113 : x7_2.length ≤ co99 := (Kd.N_reads' HO_7.out).2.1; have hC113 : Kd.F (ownd 81 k81 w.heap.size) _ _ (some ad287) x7_2.length x7_2 := (Kd.V_at (base := w.heap.size) (Kd.N_V HO_7.out)).2.2; have q0113 : (0 : Int) ≤ ((ji95) : Int) := of_decide_eq_true (by first | (with_reducible assumption) | assumption); have hcut113 := cut_from (P := Try.prog) 73 56 .i64 Try.underlying73 hi0113 1 hsz113 (some ad287) x7_2.length co99 (ji95) q0113 q113; have hr113 := Kd.F_cut (m := ((ji95) : Int).toNat) (c := co99) hC113 (by omega) hroom113; obtain ⟨A113, hA113⟩ : ∃ A1, A1 = (if co99 = ((ji95) : Int).toNat then (some ad287) else ((some ad287) : Option Addr).map (·.add (((ji95) : Int).toNat * 1))) := ⟨_, rfl⟩; obtain ⟨c113, hc113⟩ : ∃ c1, c1 = co99 - ((ji95) : Int).toNat := ⟨_, rfl⟩; have hy113 : y314.length = x7_2.length - ((ji95) : Int).toNat := (by rw [Ny314.out, List.length_drop] <;> omega); rw [show (x7_2).drop ((ji95) : Int).toNat = y314 from Ny314.out.symm] at hr113; replace hr113 : Kd.F (ownd 81 k81 w.heap.size) _ _ A113 y314.length y314 := (by rw [hA113]; exact hr113); rw [← hy113, ← hA113, ← hc113] at hcut113; have HO318 := Aside0.mk (show Kd.V (ownd 81 k81 w.heap.size) 56 _ w.heap.size _ (.slice A113 y314.length c113) y314 from Kd.V_mk (by rw [hy113, hc113]; exact Nat.sub_le_sub_right hroom113 _) hr113); have HC318 := Aside0.mk (show y314.length ≤ c113 from by rw [hy113, hc113]; exact Nat.sub_le_sub_right hroom113 _); clear hr113 hC113 hroom113 hi0113 hsz113 hc113; have KY113 := Aside0.mk hy113; have KA113 := Aside0.mk hA113; clear hy113 hA113; replace q113 := eq_true q113) | ((with_reducible refine gate_builtin (b := .append) (xs := #[.tmp 101, .tmp 105]) rfl ?_); at_builtin; refine Kd.N_append_rows (ownd 81 k81 w.heap.size) w.heap.size rfl (.tmp 101) (.tmp 105) 73 56 (.slice none 0 0) 24 rfl Try.underlying73 info56p rfl Nat.one_pos (by omega) v312 y311 y314 _ _ _ (fun k_ => k_ ≠ g) (fun k_ => ((fun k_ => k_ ≠ g)) k_ ∧ some k_ ≠ (v312 : Value).ownBlock) rfl rfl ?aO ?aR (fun _ hk => hk) ?aF (Below.refl _ _) ?aS ?aL ?_; (case aR => exact (by skip; exact Kd.V_F (Kd.V_mono (ok' := (fun k_ => ((fun k_ => k_ ≠ g)) k_ ∧ some k_ ≠ (v312 : Value).ownBlock)) (HO318.out) (fun k_ hk => ⟨hk.1.2, hk.2⟩)))); (case aF => exact (fun k_ hk => IsS124.fresh (IsS124.below HI0.out lt_) k_ hk)); (case aO => exact (Kd.N_below HO313.out lt_)); (case aS => exact (keep_size (w := w) (g := g) (row := none) (keep_at HK.out))); (case aL => have := LMc98.out; omega); intro v320 w114 ho hb hg hat; rw [← Ny319.out] at ho; replace HI0 := Aside0.mk (IsS124.grown (IsS124.below HI0.out lt_) hg (IsS124.own_neN HI0.out HO313.out (by decide))); replace HB := Aside0.mk (below_weaken (below_at HB.out) HL.out hb); replace HK := Aside0.mk (KeepBut.trans (keep_at HK.out) (KeepBut.of_grown hg g) (Kd.N_base2 HO313.out)); have HO321 := Aside0.mk (ho); (try clear HO_7 HL287_0 HL291_0 HO307 HO318 HO313); clear ho hb hg hat))
    (try subst hji95)
    (try subst hji85)
    go_roundg k2
    case measure => have := HK1.out; have := HK2.out; omega
    case rel => exact ⟨(y319), (x9_2), (t296), (by first | rfl | (simp; done) | (simp [*]; done)), H', ⟨by have := HK1.out; have := HK2.out; omega⟩, ⟨Kd.N_below HO321.out lt_⟩, ⟨IsS124.below HI0.out lt_⟩, ⟨keep_at HK.out⟩, ⟨below_at HB.out⟩⟩
   rw [if_pos c31] at H
   have c31b0 : decide (0 < x9_2) = true := decide_eq_true c31
   clear c31
   replace H := Option.bind_eq_some_iff.mp H
   obtain ⟨⟨t233, t234⟩, A320, H⟩ := H
   try dsimp only at H
   have A32 := Aside0.mk A320
   clear A320
   by_cases c33 : t233 = 0
   ·rw [if_pos c33] at H
    have c33b0 : (t233 == 0) = true := beq_iff_eq.mpr c33
    have c33b1 : (t233 != 0) = false := bne_eq_false_iff_eq.mpr c33
    clear c33
    obtain ⟨y235, hy235⟩ : ∃ y_ : List (S81), y_ = (([] : List (S81))) := ⟨_, rfl⟩
    replace H : (if 0 ≤ t231 then (if t231 < (x7_2.length : Int) then (if y235.length + (rd_Lparts x7_2 t231).length < 8796093022208 then ((some (y235 ++ (rd_Lparts x7_2 t231) : List (S81))).bind fun y239 => (if y239.length < 8796093022208 then (spec_l20Term.l1 k2 a2 (x7_2.set (t231 : Int).toNat (y239 ++ [(⟨2, 0⟩ : S81)])) (wrap64 (x9_2 - 1)) s0_0 t234) else (none))) else (none)) else (none)) else (none)) = some (r1, r2) := by first | (rw [hy235]; exact H) | exact H
    have Ny235 := Aside0.mk hy235
    clear hy235
    by_cases c34 : 0 ≤ t231
    rotate_left
    ·rw [if_neg c34] at H
     exact absurd H (by simp)
    rw [if_pos c34] at H
    have c34b0 : decide (0 ≤ t231) = true := decide_eq_true c34
    clear c34
    by_cases c35 : t231 < (x7_2.length : Int)
    rotate_left
    ·rw [if_neg c35] at H
     exact absurd H (by simp)
    rw [if_pos c35] at H
    have c35b0 : decide (t231 < (x7_2.length : Int)) = true := decide_eq_true c35
    clear c35
    by_cases c36 : y235.length + (rd_Lparts x7_2 t231).length < 8796093022208
    rotate_left
    ·rw [if_neg c36] at H
     exact absurd H (by simp)
    rw [if_pos c36] at H
    have LMc36 := Aside0.mk c36
    clear c36
    obtain ⟨y239, hy239⟩ : ∃ y_ : List (S81), y_ = (y235 ++ (rd_Lparts x7_2 t231)) := ⟨_, rfl⟩
    replace H : (if y239.length < 8796093022208 then (spec_l20Term.l1 k2 a2 (x7_2.set (t231 : Int).toNat (y239 ++ [(⟨2, 0⟩ : S81)])) (wrap64 (x9_2 - 1)) s0_0 t234) else (none)) = some (r1, r2) := by first | (rw [hy239]; exact H) | exact H
    have Ny239 := Aside0.mk hy239
    clear hy239
    by_cases c37 : y239.length < 8796093022208
    rotate_left
    ·rw [if_neg c37] at H
     exact absurd H (by simp)
    rw [if_pos c37] at H
    have LMc37 := Aside0.mk c37
    clear c37
    obtain ⟨y242, hy242⟩ : ∃ y_ : List (S81), y_ = (y239 ++ [(⟨2, 0⟩ : S81)]) := ⟨_, rfl⟩
    replace H : (spec_l20Term.l1 k2 a2 (x7_2.set (t231 : Int).toNat y242) (wrap64 (x9_2 - 1)) s0_0 t234) = some (r1, r2) := by first | (rw [hy242]; exact H) | exact H
    have Ny242 := Aside0.mk hy242
    clear hy242
    obtain ⟨y245, hy245⟩ : ∃ y_ : List (List (S81)), y_ = (x7_2.set (t231 : Int).toNat y242) := ⟨_, rfl⟩
    replace H : (spec_l20Term.l1 k2 a2 y245 (wrap64 (x9_2 - 1)) s0_0 t234) = some (r1, r2) := by first | (rw [hy245]; exact H) | exact H
    have Ny245 := Aside0.mk hy245
    clear hy245
    have H' := Aside0.mk H
    clear H
    obtain ⟨Ao39, co39, eo39⟩ := Kd.N_slice HO_7.out
    subst eo39
    go_wp2_with (first | ((with_reducible refine gate_callee (f := 107) rfl ?_); refine goesL_ (some 52) rfl rfl Try.func107 (by kernel_rfl) rfl #[.pointer (some ⟨g, 0, none⟩), .int .i64 (wrap64 ((x7_2.length : Int) - 1))] rfl (by (try simp only [List.map_toArray, List.map_cons, List.map_nil]); first | done | rfl | (simp only [List.length_drop, List.length_take]; rfl)) ?_; (with_reducible refine (spec_l20Rd_pick.calls k2 g s0_0 x1001_2 (wrap64 ((x7_2.length : Int) - 1)) t231 t232 w0 _ ?side1 ?side2 A30.out).mono ?_); (case side1 => exact IsS124.below HI0.out lt_); (case side2 => exact below_at HB.out); rintro e w40 ⟨rfl, hi, hb, hk⟩; refine ⟨_, rfl, ?_⟩; replace HO_7 := Aside0.mk (Kd.N_mono (Kd.N_keep (Kd.N_mono (ok := fun k_ => k_ ≠ g) (Kd.N_below HO_7.out lt_) (fun k_ hk_ => (⟨hk_, hk_⟩ : _ ∧ k_ ≠ g))) hk (fun _ h => h.2)) (fun _ h => h.1)); replace HK := Aside0.mk (KeepBut.trans (keep_at HK.out) hk (.inl rfl)); replace HB := Aside0.mk (hb); replace HI0 := Aside0.mk (hi); (try clear hb); (try clear hb2); (try clear hk); (try clear hi)) | (go_at_call 107; (with_reducible refine (spec_l20Rd_pick.calls k2 g s0_0 t232 4 t233 t234 w0 _ ?side1 ?side2 A32.out).mono ?_); (case side1 => exact IsS124.below HI0.out lt_); (case side2 => exact below_at HB.out); rintro e w41 ⟨rfl, hi, hb, hk⟩; replace HO_7 := Aside0.mk (Kd.N_mono (Kd.N_keep (Kd.N_mono (ok := fun k_ => k_ ≠ g) (Kd.N_below HO_7.out lt_) (fun k_ hk_ => (⟨hk_, hk_⟩ : _ ∧ k_ ≠ g))) hk (fun _ h => h.2)) (fun _ h => h.1)); replace HK := Aside0.mk (KeepBut.trans (keep_at HK.out) hk (.inl rfl)); replace HB := Aside0.mk (hb); replace HI0 := Aside0.mk (hi); (try clear hb); (try clear hb2); (try clear hk); (try clear hi)) | ((with_reducible refine gate_dst (N := 64) rfl ?_); refine Kd.R_lit k81 _ 81 ?hg (N := 64) ?hd (xs := ([] : List (S81))) (inner := []) (ok := fun _ => True) (okp := fun _ => True) ?hr ?hp (fun _ hk => hk) trivial (Below.refl _ _) (Nat.le_refl _) (by simp) ?_; (case hd => rfl); (case hg => rfl); (case hr => first | (go_simp; done) | (go_simp; rfl)); (case hp => exact (Reps.none _ _)); intro v236 w42 ho43 hb hg_ hnew_; clear hg_ hnew_; (first | rw [← Ny235.out] at ho43 | (simp only [Int.reduceToNat] at ho43; rw [← Ny235.out] at ho43)); replace HO_7 := Aside0.mk (Kd.N_elder' (Kd.N_below HO_7.out lt_) (Kd.R_base ho43) hb); have HO237 := Aside0.mk (Kd.R_lower ho43 (keep_size (w := w) (g := g) (row := none) (keep_at HK.out))); replace HI0 := Aside0.mk (IsS124.below (IsS124.below HI0.out lt_) hb); replace HK := Aside0.mk (KeepBut.trans (keep_at HK.out) (KeepBut.of_below hb g none) (.inl rfl)); replace HB := Aside0.mk (below_step (below_at HB.out) hb); clear hb ho43; have p238 : 0 ≤ (t231 : Int) := of_decide_eq_true (by first | (with_reducible assumption) | assumption); have q238 : t231 < (x7_2.length : Int) := of_decide_eq_true (by first | (with_reducible assumption) | assumption); obtain ⟨ad238, A238_0, c238_0, e238, hx238_0, hl238_0, hi238_0⟩ := at_Lparts (own_C (Kd.N_reads' HO_7.out).2.2) t231 p238 q238; cases e238; obtain ⟨ce238, hce238, hMe238, hcc238⟩ := Kd.N_get HO_7.out [] t231 p238 (by first | exact q238 | exact of_decide_eq_true (by first | (with_reducible assumption) | assumption) | (have e_ := (Kd.N_reads' HO_7.out).1; omega)); obtain ⟨ua238_0, uc238_0, rfl, ul238_0, ge238_0⟩ := FK_own_open hMe238; have hv238_0 := hcc238 0 _ rfl; rw [Nat.add_zero, show ((ownd 81 k81 w.heap.size)).sz = 1 from rfl, Nat.mul_one] at hv238_0; replace hv238_0 := Option.some.inj (hv238_0.symm.trans hx238_0); injection hv238_0 with hva_ hvn_ hvc_; rw [hva_] at ge238_0; rw [hvc_] at ul238_0; have HL238_0 := Aside0.mk (show Kd.V k81 81 _ w.heap.size _ _ (rd_Lparts x7_2 t231) from Kd.V_mk ul238_0 ge238_0); clear hva_ hvn_ hvc_ ge238_0 ul238_0; clear hcc238 hce238; have HR238_0 := Aside0.mk hi238_0; have HC238_0 := Aside0.mk hl238_0; clear hi238_0 hl238_0; replace p238 := eq_true p238; replace q238 := eq_true q238) | ((with_reducible refine gate_builtin (b := .append) (xs := #[.tmp 64, .tmp 68]) rfl ?_); at_builtin; refine Kd.R_append_rows k81 w.heap.size rfl (.tmp 64) (.tmp 68) 56 81 (.agg #[(.int .i64 0), (.int .i64 0)]) 16 rfl Try.underlying56 info81p rfl (by decide) (by omega) v236 y235 (rd_Lparts x7_2 t231) _ _ _ (fun _ => True) (fun _ => False) rfl rfl ?aO ?aR (fun _ _ h => h) (fun _ h => h.elim) ?aF (Below.refl _ _) ?aS ?aL ?_; (case aR => repeat (first | exact (Kd.C_below HR238_0.out lt_) | (with_reducible refine Kd.C_alloc ?_ _) | (with_reducible refine Kd.C_drewN ?_ _) | (with_reducible refine Kd.C_drew ?_))); (case aF => exact (fun _ _ => trivial)); (case aO => exact (Kd.R_below HO237.out lt_)); (case aS => exact (keep_size (w := w) (g := g) (row := none) (keep_at HK.out))); (case aL => have := LMc36.out; omega); intro v240 w44 ho hb hg hat; rw [← Ny239.out] at ho; replace HO_7 := Aside0.mk (Kd.N_afterv (ok := (fun k_ => k_ ≠ g)) (Kd.N_below HO_7.out lt_) hg hat); replace HI0 := Aside0.mk (IsS124.grown (IsS124.below HI0.out lt_) hg (IsS124.own_ne HI0.out HO237.out (by decide))); replace HB := Aside0.mk (below_weaken (below_at HB.out) HL.out hb); replace HK := Aside0.mk (KeepBut.trans (keep_at HK.out) (KeepBut.of_grown hg g) (Kd.R_base2 HO237.out)); have HO241 := Aside0.mk (ho); (try clear HL238_0 HO237); clear ho hb hg hat) | ((with_reducible refine gate_builtin (b := .append) (xs := #[.tmp 69, .tmp 71]) rfl ?_); at_builtin; refine Kd.R_append k81 w.heap.size rfl (.tmp 69) (.tmp 71) 56 81 (.agg #[(.int .i64 0), (.int .i64 0)]) 16 rfl Try.underlying56 info81p rfl (by decide) (by omega) v240 y239 (⟨2, 0⟩ : S81) [.int .i64 2, .int .i64 0] (fun _ => True) (fun _ => False) rfl rfl ?aP (fun _ hk => hk.elim) ?aF ?aO (Below.refl _ _) ?aS ?aL ?_; (case aP => exact k81_mkM _ _ _ (⟨2, 0⟩ : S81)); (case aF => exact (fun _ _ => trivial)); (case aO => exact (Kd.R_below HO241.out lt_)); (case aS => exact (keep_size (w := w) (g := g) (row := none) (keep_at HK.out))); (case aL => have := LMc37.out; omega); intro v243 w45 ho hb hg hat; rw [← Ny242.out] at ho; replace HO_7 := Aside0.mk (Kd.N_afterv (ok := (fun k_ => k_ ≠ g)) (Kd.N_below HO_7.out lt_) hg hat); replace HI0 := Aside0.mk (IsS124.grown (IsS124.below HI0.out lt_) hg (IsS124.own_ne HI0.out HO241.out (by decide))); replace HB := Aside0.mk (below_weaken (below_at HB.out) HL.out hb); replace HK := Aside0.mk (KeepBut.trans (keep_at HK.out) (KeepBut.of_grown hg g) (Kd.R_base2 HO241.out)); have HO244 := Aside0.mk (ho); (try clear HL238_0 HO241); clear ho hb hg hat; have p38 : 0 ≤ (t231 : Int) := of_decide_eq_true (by first | (with_reducible assumption) | assumption); have q38 : (t231 : Int) < ((x7_2.length : Int) : Int) := of_decide_eq_true (by first | (with_reducible assumption) | assumption); obtain ⟨go38, co38, eo38, gb38, gl38, cl38, HG38⟩ := Kd.N_form HO_7.out (by omega); (first | cases eo38 | (injection eo38 with ea_ en_ ec_; (first | subst ea_ | (injection ea_ with ea_; subst ea_)); subst ec_; clear en_)); have GB38 := Aside0.mk gb38; have GG38 := Aside0.mk HG38; clear gb38 gl38 HG38; (first | simp only [add_plain] at hx238_0 | skip); obtain ⟨ce38, hcl38, hM38, hcc38, hfr38⟩ := Kd.N_elem HO_7.out [] (t231 : Int) p38 q38; obtain ⟨ua38_0, uc38_0, rfl, ul38_0, ge38_0⟩ := FK_own_open hM38; have hx38_0 := hcc38 0 _ rfl; have hf38_0 := hfr38 0; (try simp only [show ((ownd 81 k81 w.heap.size)).sz = 1 from rfl, Nat.mul_one, Nat.add_zero] at hx38_0); (try simp only [show ((ownd 81 k81 w.heap.size)).sz = 1 from rfl, Nat.mul_one, Nat.add_zero] at hf38_0); (try clear hM38); clear hcl38 hcc38 hfr38; replace p38 := eq_true p38; replace q38 := eq_true q38; have HX46 := Aside0.mk (show Kd.N (ownd 81 k81 w.heap.size) 56 w45 w.heap.size (fun k_ => k_ ≠ g) (.slice (some ⟨go38, 0, none⟩) x7_2.length co39) x7_2 from (Kd.N_below (Kd.N_mono HO_7.out (fun _ hk => hk.1)) lt_)); obtain ⟨ce46, hcl46, hM46, hcc46, hfr46⟩ := Kd.N_elem HX46.out [] (t231 : Int) (of_decide_eq_true (by first | (with_reducible assumption) | assumption)) (by have h_ : (t231 : Int) < ((x7_2.length : Int) : Int) := of_decide_eq_true (by first | (with_reducible assumption) | assumption); first | exact h_ | (have e_ := (Kd.N_reads' HO_7.out).1; omega) | simpa using h_); obtain ⟨ua46_0, uc46_0, rfl, ul46_0, ge46_0⟩ := FK_own_open hM46; have HP46 := Kd.N_seg HX46.out (t231 : Int) (of_decide_eq_true (by first | (with_reducible assumption) | assumption)) (by have h_ : (t231 : Int) < ((x7_2.length : Int) : Int) := of_decide_eq_true (by first | (with_reducible assumption) | assumption); first | exact h_ | (have e_ := (Kd.N_reads' HO_7.out).1; omega) | simpa using h_) (seg := [v243]) (j := 0) hcl46 hcc46 (show 1 ≤ 1 from by decide) (x' := y242) (FK_own_mk (Kd.R_mono (ok' := (fun k_ => ((fun k_ => k_ ≠ g)) k_ ∧ k_ ≠ go38)) (IsS124.apart HI0.out (Kd.R_apart' (HO244.out) (Kd.N_typed HO_7.out) (by decide)) (by decide)) (fun k_ hk => ⟨hk.2, fun e_ => (hk.1.2) (by rw [e_]; rfl)⟩))) (fun _ hk => hk); have hx46_0 := hcc46 0 _ rfl; (try simp only [show ((ownd 81 k81 w.heap.size)).sz = 1 from rfl, Nat.mul_one, Nat.add_zero] at hx46_0); have hf46_0 := hfr46 0; (try simp only [show ((ownd 81 k81 w.heap.size)).sz = 1 from rfl, Nat.mul_one, Nat.add_zero] at hf46_0); (try clear hM46); clear hcl46 hcc46 hfr46; (try simp only [show ((ownd 81 k81 w.heap.size)).sz = 1 from rfl, Nat.mul_one, Nat.add_zero] at HP46); (try simp only [show ((ownd 81 k81 w.heap.size)).sz = 1 from rfl, Nat.mul_one, Nat.add_zero] at HP46)) | ((with_reducible refine gate_store (t := 56) (p := 73) rfl ?_); refine store_event (t := 56) (p := 73) (v := ?vo_w47) (w1 := (w45.setCell ⟨go38, (t231 : Int).toNat, none⟩ (v243))) ?hg ?ho ?hn ?hr ?_; (case ho => rfl); (case hg => rfl); (case hn => rfl); (case hr => first | (go_simp; done) | (go_simp; rfl) | (obtain ⟨_, _, e_⟩ := Kd.R_slice HO244.out; subst e_; first | (go_simp; done) | (go_simp; rfl))); intro w47 hw; have hg : w45.grownBy w47 (some go38) := (by rw [hw]; exact HP46.2); have hp_ : Kd.N (ownd 81 k81 w.heap.size) 56 w47 w.heap.size (fun k_ => k_ ≠ g) (.slice (some ⟨go38, 0, none⟩) x7_2.length co39) y245 := (by rw [hw, Ny245.out]; exact HP46.1); clear HP46; replace HI0 := Aside0.mk (IsS124.grown (IsS124.below HI0.out lt_) hg (IsS124.own_neN HI0.out HO_7.out (by decide))); replace HB := Aside0.mk ((by rw [hw]; exact below_set (HB.out) (Nat.le_trans HL.out GB38.out) : Below w0.heap.size w0 w47)); replace HK := Aside0.mk (KeepBut.trans (keep_at HK.out) (KeepBut.of_grown hg g) (Kd.N_base2 HO_7.out)); replace HO_7 := Aside0.mk (hp_); (try clear HL238_0 HO244); clear hg hw hp_))
    go_roundg k2
    case measure => have := HK1.out; have := HK2.out; omega
    case rel => exact ⟨(y245), (wrap64 (x9_2 - 1)), (t234), (by first | rfl | (simp; done) | (simp [*]; done)), H', ⟨by have := HK1.out; have := HK2.out; omega⟩, ⟨Kd.N_below HO_7.out lt_⟩, ⟨IsS124.below HI0.out lt_⟩, ⟨keep_at HK.out⟩, ⟨below_at HB.out⟩⟩
   rw [if_neg c33] at H
   have c33b0 : (t233 == 0) = false := beq_eq_false_iff_ne.mpr c33
   have c33b1 : (t233 != 0) = true := bne_iff_ne.mpr c33
   obtain ⟨y246, hy246⟩ : ∃ y_ : List (S81), y_ = (([] : List (S81))) := ⟨_, rfl⟩
   replace H : (if 0 ≤ t231 then (if t231 < (x7_2.length : Int) then (if y246.length + (rd_Lparts x7_2 t231).length < 8796093022208 then ((some (y246 ++ (rd_Lparts x7_2 t231) : List (S81))).bind fun y250 => (if 0 ≤ (wrap64 (t231 + 1)) then (if (wrap64 (t231 + 1)) < (x7_2.length : Int) then (if y250.length + (rd_Lparts x7_2 (wrap64 (t231 + 1))).length < 8796093022208 then ((some (y250 ++ (rd_Lparts x7_2 (wrap64 (t231 + 1))) : List (S81))).bind fun y254 => ((spec_l20Rd_pick.f k2 s0_0 t234 3).bind fun bt257 => (if y254.length < 8796093022208 then ((some (([] : List (List (S81))) : List (List (S81)))).bind fun y262 => (if t231 ≤ (x7_2.length : Int) then ((some (x7_2.take (t231 : Int).toNat : List (List (S81)))).bind fun y265 => (if y262.length + y265.length < 5864062014805 then ((some (y262 ++ y265 : List (List (S81)))).bind fun y270 => (if y270.length < 5864062014805 then ((some (y270 ++ [(y254 ++ [(⟨wrap64 (3 + bt257.1), 0⟩ : S81)])] : List (List (S81)))).bind fun y273 => (if 0 ≤ (wrap64 (t231 + 2)) then (if (wrap64 (t231 + 2)) ≤ (x7_2.length : Int) then ((some (x7_2.drop ((wrap64 (t231 + 2)) : Int).toNat : List (List (S81)))).bind fun y276 => (if y273.length + y276.length < 5864062014805 then (spec_l20Term.l1 k2 a2 (y273 ++ y276) x9_2 s0_0 bt257.2) else (none))) else (none)) else (none))) else (none))) else (none))) else (none))) else (none)))) else (none)) else (none)) else (none))) else (none)) else (none)) else (none)) = some (r1, r2) := by first | (rw [hy246]; exact H) | exact H
   have Ny246 := Aside0.mk hy246
   clear hy246
   by_cases c48 : 0 ≤ t231
   rotate_left
   ·rw [if_neg c48] at H
    exact absurd H (by simp)
   rw [if_pos c48] at H
   have c48b0 : decide (0 ≤ t231) = true := decide_eq_true c48
   clear c48
   by_cases c49 : t231 < (x7_2.length : Int)
   rotate_left
   ·rw [if_neg c49] at H
    exact absurd H (by simp)
   rw [if_pos c49] at H
   have c49b0 : decide (t231 < (x7_2.length : Int)) = true := decide_eq_true c49
   clear c49
   by_cases c50 : y246.length + (rd_Lparts x7_2 t231).length < 8796093022208
   rotate_left
   ·rw [if_neg c50] at H
    exact absurd H (by simp)
   rw [if_pos c50] at H
   have LMc50 := Aside0.mk c50
   clear c50
   obtain ⟨y250, hy250⟩ : ∃ y_ : List (S81), y_ = (y246 ++ (rd_Lparts x7_2 t231)) := ⟨_, rfl⟩
   replace H : (if 0 ≤ (wrap64 (t231 + 1)) then (if (wrap64 (t231 + 1)) < (x7_2.length : Int) then (if y250.length + (rd_Lparts x7_2 (wrap64 (t231 + 1))).length < 8796093022208 then ((some (y250 ++ (rd_Lparts x7_2 (wrap64 (t231 + 1))) : List (S81))).bind fun y254 => ((spec_l20Rd_pick.f k2 s0_0 t234 3).bind fun bt257 => (if y254.length < 8796093022208 then ((some (([] : List (List (S81))) : List (List (S81)))).bind fun y262 => (if t231 ≤ (x7_2.length : Int) then ((some (x7_2.take (t231 : Int).toNat : List (List (S81)))).bind fun y265 => (if y262.length + y265.length < 5864062014805 then ((some (y262 ++ y265 : List (List (S81)))).bind fun y270 => (if y270.length < 5864062014805 then ((some (y270 ++ [(y254 ++ [(⟨wrap64 (3 + bt257.1), 0⟩ : S81)])] : List (List (S81)))).bind fun y273 => (if 0 ≤ (wrap64 (t231 + 2)) then (if (wrap64 (t231 + 2)) ≤ (x7_2.length : Int) then ((some (x7_2.drop ((wrap64 (t231 + 2)) : Int).toNat : List (List (S81)))).bind fun y276 => (if y273.length + y276.length < 5864062014805 then (spec_l20Term.l1 k2 a2 (y273 ++ y276) x9_2 s0_0 bt257.2) else (none))) else (none)) else (none))) else (none))) else (none))) else (none))) else (none)))) else (none)) else (none)) else (none)) = some (r1, r2) := by first | (rw [hy250]; exact H) | exact H
   have Ny250 := Aside0.mk hy250
   clear hy250
   obtain ⟨ji51, hji51⟩ : ∃ j_ : Int, (wrap64 (t231 + 1)) = j_ := ⟨_, rfl⟩
   replace H : (if 0 ≤ (ji51) then (if (ji51) < (x7_2.length : Int) then (if y250.length + (rd_Lparts x7_2 (ji51)).length < 8796093022208 then ((some (y250 ++ (rd_Lparts x7_2 (ji51)) : List (S81))).bind fun y254 => ((spec_l20Rd_pick.f k2 s0_0 t234 3).bind fun bt257 => (if y254.length < 8796093022208 then ((some (([] : List (List (S81))) : List (List (S81)))).bind fun y262 => (if t231 ≤ (x7_2.length : Int) then ((some (x7_2.take (t231 : Int).toNat : List (List (S81)))).bind fun y265 => (if y262.length + y265.length < 5864062014805 then ((some (y262 ++ y265 : List (List (S81)))).bind fun y270 => (if y270.length < 5864062014805 then ((some (y270 ++ [(y254 ++ [(⟨wrap64 (3 + bt257.1), 0⟩ : S81)])] : List (List (S81)))).bind fun y273 => (if 0 ≤ (wrap64 (t231 + 2)) then (if (wrap64 (t231 + 2)) ≤ (x7_2.length : Int) then ((some (x7_2.drop ((wrap64 (t231 + 2)) : Int).toNat : List (List (S81)))).bind fun y276 => (if y273.length + y276.length < 5864062014805 then (spec_l20Term.l1 k2 a2 (y273 ++ y276) x9_2 s0_0 bt257.2) else (none))) else (none)) else (none))) else (none))) else (none))) else (none))) else (none)))) else (none)) else (none)) else (none)) = some (r1, r2) := by first | (rw [hji51] at H; exact H) | (simp only [hji51] at H ⊢; exact H)
   (try rw [hji51] at A30)
   (try rw [hji51] at A32)
   have hji51w : (IntKind.i64.wrap (t231 + 1)) = ji51 := (i64_w _).trans hji51
   by_cases c52 : 0 ≤ (ji51)
   rotate_left
   ·rw [if_neg c52] at H
    exact absurd H (by simp)
   rw [if_pos c52] at H
   have c52b0 : decide (0 ≤ (ji51)) = true := decide_eq_true c52
   clear c52
   by_cases c53 : (ji51) < (x7_2.length : Int)
   rotate_left
   ·rw [if_neg c53] at H
    exact absurd H (by simp)
   rw [if_pos c53] at H
   have c53b0 : decide ((ji51) < (x7_2.length : Int)) = true := decide_eq_true c53
   clear c53
   by_cases c54 : y250.length + (rd_Lparts x7_2 (ji51)).length < 8796093022208
   rotate_left
   ·rw [if_neg c54] at H
    exact absurd H (by simp)
   rw [if_pos c54] at H
   have LMc54 := Aside0.mk c54
   clear c54
   obtain ⟨y254, hy254⟩ : ∃ y_ : List (S81), y_ = (y250 ++ (rd_Lparts x7_2 (ji51))) := ⟨_, rfl⟩
   replace H : ((spec_l20Rd_pick.f k2 s0_0 t234 3).bind fun bt257 => (if y254.length < 8796093022208 then ((some (([] : List (List (S81))) : List (List (S81)))).bind fun y262 => (if t231 ≤ (x7_2.length : Int) then ((some (x7_2.take (t231 : Int).toNat : List (List (S81)))).bind fun y265 => (if y262.length + y265.length < 5864062014805 then ((some (y262 ++ y265 : List (List (S81)))).bind fun y270 => (if y270.length < 5864062014805 then ((some (y270 ++ [(y254 ++ [(⟨wrap64 (3 + bt257.1), 0⟩ : S81)])] : List (List (S81)))).bind fun y273 => (if 0 ≤ (wrap64 (t231 + 2)) then (if (wrap64 (t231 + 2)) ≤ (x7_2.length : Int) then ((some (x7_2.drop ((wrap64 (t231 + 2)) : Int).toNat : List (List (S81)))).bind fun y276 => (if y273.length + y276.length < 5864062014805 then (spec_l20Term.l1 k2 a2 (y273 ++ y276) x9_2 s0_0 bt257.2) else (none))) else (none)) else (none))) else (none))) else (none))) else (none))) else (none))) = some (r1, r2) := by first | (rw [hy254]; exact H) | exact H
   have Ny254 := Aside0.mk hy254
   clear hy254
   replace H := Option.bind_eq_some_iff.mp H
   obtain ⟨⟨t257, t258⟩, A550, H⟩ := H
   try dsimp only at H
   have A55 := Aside0.mk A550
   clear A550
   by_cases c56 : y254.length < 8796093022208
   rotate_left
   ·rw [if_neg c56] at H
    exact absurd H (by simp)
   rw [if_pos c56] at H
   have LMc56 := Aside0.mk c56
   clear c56
   obtain ⟨y259, hy259⟩ : ∃ y_ : List (S81), y_ = (y254 ++ [(⟨wrap64 (3 + t257), 0⟩ : S81)]) := ⟨_, rfl⟩
   replace H : ((some (([] : List (List (S81))) : List (List (S81)))).bind fun y262 => (if t231 ≤ (x7_2.length : Int) then ((some (x7_2.take (t231 : Int).toNat : List (List (S81)))).bind fun y265 => (if y262.length + y265.length < 5864062014805 then ((some (y262 ++ y265 : List (List (S81)))).bind fun y270 => (if y270.length < 5864062014805 then ((some (y270 ++ [y259] : List (List (S81)))).bind fun y273 => (if 0 ≤ (wrap64 (t231 + 2)) then (if (wrap64 (t231 + 2)) ≤ (x7_2.length : Int) then ((some (x7_2.drop ((wrap64 (t231 + 2)) : Int).toNat : List (List (S81)))).bind fun y276 => (if y273.length + y276.length < 5864062014805 then (spec_l20Term.l1 k2 a2 (y273 ++ y276) x9_2 s0_0 t258) else (none))) else (none)) else (none))) else (none))) else (none))) else (none))) = some (r1, r2) := by first | (rw [hy259]; exact H) | exact H
   have Ny259 := Aside0.mk hy259
   clear hy259
   obtain ⟨y262, hy262⟩ : ∃ y_ : List (List (S81)), y_ = (([] : List (List (S81)))) := ⟨_, rfl⟩
   replace H : (if t231 ≤ (x7_2.length : Int) then ((some (x7_2.take (t231 : Int).toNat : List (List (S81)))).bind fun y265 => (if y262.length + y265.length < 5864062014805 then ((some (y262 ++ y265 : List (List (S81)))).bind fun y270 => (if y270.length < 5864062014805 then ((some (y270 ++ [y259] : List (List (S81)))).bind fun y273 => (if 0 ≤ (wrap64 (t231 + 2)) then (if (wrap64 (t231 + 2)) ≤ (x7_2.length : Int) then ((some (x7_2.drop ((wrap64 (t231 + 2)) : Int).toNat : List (List (S81)))).bind fun y276 => (if y273.length + y276.length < 5864062014805 then (spec_l20Term.l1 k2 a2 (y273 ++ y276) x9_2 s0_0 t258) else (none))) else (none)) else (none))) else (none))) else (none))) else (none)) = some (r1, r2) := by first | (rw [hy262]; exact H) | exact H
   have Ny262 := Aside0.mk hy262
   clear hy262
   have c57b0 := eq_true (of_decide_eq_true (by first | (with_reducible assumption) | assumption) : 0 ≤ t231)
   by_cases c58 : t231 ≤ (x7_2.length : Int)
   rotate_left
   ·rw [if_neg c58] at H
    exact absurd H (by simp)
   rw [if_pos c58] at H
   have c58b0 := eq_true c58
   have c58b1 : decide (t231 ≤ (x7_2.length : Int)) = true := decide_eq_true c58
   clear c58
   obtain ⟨y265, hy265⟩ : ∃ y_ : List (List (S81)), y_ = (x7_2.take (t231 : Int).toNat) := ⟨_, rfl⟩
   replace H : (if y262.length + y265.length < 5864062014805 then ((some (y262 ++ y265 : List (List (S81)))).bind fun y270 => (if y270.length < 5864062014805 then ((some (y270 ++ [y259] : List (List (S81)))).bind fun y273 => (if 0 ≤ (wrap64 (t231 + 2)) then (if (wrap64 (t231 + 2)) ≤ (x7_2.length : Int) then ((some (x7_2.drop ((wrap64 (t231 + 2)) : Int).toNat : List (List (S81)))).bind fun y276 => (if y273.length + y276.length < 5864062014805 then (spec_l20Term.l1 k2 a2 (y273 ++ y276) x9_2 s0_0 t258) else (none))) else (none)) else (none))) else (none))) else (none)) = some (r1, r2) := by first | (rw [hy265]; exact H) | exact H
   have Ny265 := Aside0.mk hy265
   clear hy265
   by_cases c59 : y262.length + y265.length < 5864062014805
   rotate_left
   ·rw [if_neg c59] at H
    exact absurd H (by simp)
   rw [if_pos c59] at H
   have LMc59 := Aside0.mk c59
   clear c59
   obtain ⟨y270, hy270⟩ : ∃ y_ : List (List (S81)), y_ = (y262 ++ y265) := ⟨_, rfl⟩
   replace H : (if y270.length < 5864062014805 then ((some (y270 ++ [y259] : List (List (S81)))).bind fun y273 => (if 0 ≤ (wrap64 (t231 + 2)) then (if (wrap64 (t231 + 2)) ≤ (x7_2.length : Int) then ((some (x7_2.drop ((wrap64 (t231 + 2)) : Int).toNat : List (List (S81)))).bind fun y276 => (if y273.length + y276.length < 5864062014805 then (spec_l20Term.l1 k2 a2 (y273 ++ y276) x9_2 s0_0 t258) else (none))) else (none)) else (none))) else (none)) = some (r1, r2) := by first | (rw [hy270]; exact H) | exact H
   have Ny270 := Aside0.mk hy270
   clear hy270
   by_cases c60 : y270.length < 5864062014805
   rotate_left
   ·rw [if_neg c60] at H
    exact absurd H (by simp)
   rw [if_pos c60] at H
   have LMc60 := Aside0.mk c60
   clear c60
   obtain ⟨y273, hy273⟩ : ∃ y_ : List (List (S81)), y_ = (y270 ++ [y259]) := ⟨_, rfl⟩
   replace H : (if 0 ≤ (wrap64 (t231 + 2)) then (if (wrap64 (t231 + 2)) ≤ (x7_2.length : Int) then ((some (x7_2.drop ((wrap64 (t231 + 2)) : Int).toNat : List (List (S81)))).bind fun y276 => (if y273.length + y276.length < 5864062014805 then (spec_l20Term.l1 k2 a2 (y273 ++ y276) x9_2 s0_0 t258) else (none))) else (none)) else (none)) = some (r1, r2) := by first | (rw [hy273]; exact H) | exact H
   have Ny273 := Aside0.mk hy273
   clear hy273
   obtain ⟨ji61, hji61⟩ : ∃ j_ : Int, (wrap64 (t231 + 2)) = j_ := ⟨_, rfl⟩
   replace H : (if 0 ≤ (ji61) then (if (ji61) ≤ (x7_2.length : Int) then ((some (x7_2.drop ((ji61) : Int).toNat : List (List (S81)))).bind fun y276 => (if y273.length + y276.length < 5864062014805 then (spec_l20Term.l1 k2 a2 (y273 ++ y276) x9_2 s0_0 t258) else (none))) else (none)) else (none)) = some (r1, r2) := by first | (rw [hji61] at H; exact H) | (simp only [hji61] at H ⊢; exact H)
   (try rw [hji61] at A30)
   (try rw [hji61] at A32)
   (try rw [hji61] at A55)
   have hji61w : (IntKind.i64.wrap (t231 + 2)) = ji61 := (i64_w _).trans hji61
   by_cases c62 : 0 ≤ (ji61)
   rotate_left
   ·rw [if_neg c62] at H
    exact absurd H (by simp)
   rw [if_pos c62] at H
   have c62b0 := eq_true c62
   have c62b1 : decide (0 ≤ (ji61)) = true := decide_eq_true c62
   clear c62
   by_cases c63 : (ji61) ≤ (x7_2.length : Int)
   rotate_left
   ·rw [if_neg c63] at H
    exact absurd H (by simp)
   rw [if_pos c63] at H
   have c63b0 := eq_true c63
   have c63b1 : decide ((ji61) ≤ (x7_2.length : Int)) = true := decide_eq_true c63
   clear c63
   obtain ⟨y276, hy276⟩ : ∃ y_ : List (List (S81)), y_ = (x7_2.drop ((ji61) : Int).toNat) := ⟨_, rfl⟩
   replace H : (if y273.length + y276.length < 5864062014805 then (spec_l20Term.l1 k2 a2 (y273 ++ y276) x9_2 s0_0 t258) else (none)) = some (r1, r2) := by first | (rw [hy276]; exact H) | exact H
   have Ny276 := Aside0.mk hy276
   clear hy276
   by_cases c64 : y273.length + y276.length < 5864062014805
   rotate_left
   ·rw [if_neg c64] at H
    exact absurd H (by simp)
   rw [if_pos c64] at H
   have LMc64 := Aside0.mk c64
   clear c64
   obtain ⟨y281, hy281⟩ : ∃ y_ : List (List (S81)), y_ = (y273 ++ y276) := ⟨_, rfl⟩
   replace H : (spec_l20Term.l1 k2 a2 y281 x9_2 s0_0 t258) = some (r1, r2) := by first | (rw [hy281]; exact H) | exact H
   have Ny281 := Aside0.mk hy281
   clear hy281
   have H' := Aside0.mk H
   clear H
   obtain ⟨Ao65, co65, eo65⟩ := Kd.N_slice HO_7.out
   subst eo65
   go_wp2_with (first | ((with_reducible refine gate_callee (f := 107) rfl ?_); refine goesL_ (some 52) rfl rfl Try.func107 (by kernel_rfl) rfl #[.pointer (some ⟨g, 0, none⟩), .int .i64 (wrap64 ((x7_2.length : Int) - 1))] rfl (by (try simp only [List.map_toArray, List.map_cons, List.map_nil]); first | done | rfl | (simp only [List.length_drop, List.length_take]; rfl)) ?_; (with_reducible refine (spec_l20Rd_pick.calls k2 g s0_0 x1001_2 (wrap64 ((x7_2.length : Int) - 1)) t231 t232 w0 _ ?side1 ?side2 A30.out).mono ?_); (case side1 => exact IsS124.below HI0.out lt_); (case side2 => exact below_at HB.out); rintro e w66 ⟨rfl, hi, hb, hk⟩; refine ⟨_, rfl, ?_⟩; replace HO_7 := Aside0.mk (Kd.N_mono (Kd.N_keep (Kd.N_mono (ok := fun k_ => k_ ≠ g) (Kd.N_below HO_7.out lt_) (fun k_ hk_ => (⟨hk_, hk_⟩ : _ ∧ k_ ≠ g))) hk (fun _ h => h.2)) (fun _ h => h.1)); replace HK := Aside0.mk (KeepBut.trans (keep_at HK.out) hk (.inl rfl)); replace HB := Aside0.mk (hb); replace HI0 := Aside0.mk (hi); (try clear hb); (try clear hb2); (try clear hk); (try clear hi)) | (go_at_call 107; (with_reducible refine (spec_l20Rd_pick.calls k2 g s0_0 t232 4 t233 t234 w0 _ ?side1 ?side2 A32.out).mono ?_); (case side1 => exact IsS124.below HI0.out lt_); (case side2 => exact below_at HB.out); rintro e w67 ⟨rfl, hi, hb, hk⟩; replace HO_7 := Aside0.mk (Kd.N_mono (Kd.N_keep (Kd.N_mono (ok := fun k_ => k_ ≠ g) (Kd.N_below HO_7.out lt_) (fun k_ hk_ => (⟨hk_, hk_⟩ : _ ∧ k_ ≠ g))) hk (fun _ h => h.2)) (fun _ h => h.1)); replace HK := Aside0.mk (KeepBut.trans (keep_at HK.out) hk (.inl rfl)); replace HB := Aside0.mk (hb); replace HI0 := Aside0.mk (hi); (try clear hb); (try clear hb2); (try clear hk); (try clear hi)))
   replace HO_7 := Aside0.mk (Kd.N_drew HO_7.out)
   replace HI0 := Aside0.mk (IsS124.drew HI0.out)
   replace HK := Aside0.mk (keep_drew HK.out)
   replace HB := Aside0.mk (below_drew1 HB.out)
   have p249 : 0 ≤ (t231 : Int) := of_decide_eq_true (by first | (with_reducible assumption) | assumption)
   have q249 : t231 < (x7_2.length : Int) := of_decide_eq_true (by first | (with_reducible assumption) | assumption)
   obtain ⟨ad249, A249_0, c249_0, e249, hx249_0, hl249_0, hi249_0⟩ := at_Lparts (own_C (Kd.N_reads' HO_7.out).2.2) t231 p249 q249
   cases e249
   obtain ⟨ce249, hce249, hMe249, hcc249⟩ := Kd.N_get HO_7.out [] t231 p249 (by first | exact q249 | exact of_decide_eq_true (by first | (with_reducible assumption) | assumption) | (have e_ := (Kd.N_reads' HO_7.out).1; omega))
   obtain ⟨ua249_0, uc249_0, rfl, ul249_0, ge249_0⟩ := FK_own_open hMe249
   have hv249_0 := hcc249 0 _ rfl
   rw [Nat.add_zero, show ((ownd 81 k81 w.heap.size)).sz = 1 from rfl, Nat.mul_one] at hv249_0
   replace hv249_0 := Option.some.inj (hv249_0.symm.trans hx249_0)
   injection hv249_0 with hva_ hvn_ hvc_
   rw [hva_] at ge249_0
   rw [hvc_] at ul249_0
   have HL249_0 := Aside0.mk (show Kd.V k81 81 _ w.heap.size _ _ (rd_Lparts x7_2 t231) from Kd.V_mk ul249_0 ge249_0)
   clear hva_ hvn_ hvc_ ge249_0 ul249_0
   clear hcc249 hce249
   have HR249_0 := Aside0.mk hi249_0
   have HC249_0 := Aside0.mk hl249_0
   clear hi249_0 hl249_0
   replace p249 := eq_true p249
   replace q249 := eq_true q249
   have p253 : 0 ≤ ((ji51) : Int) := of_decide_eq_true (by first | (with_reducible assumption) | assumption)
   have q253 : (ji51) < (x7_2.length : Int) := of_decide_eq_true (by first | (with_reducible assumption) | assumption)
   obtain ⟨ad253, A253_0, c253_0, e253, hx253_0, hl253_0, hi253_0⟩ := at_Lparts (own_C (Kd.N_reads' HO_7.out).2.2) (ji51) p253 q253
   obtain rfl : ad249 = ad253 := (by injection e253)
   obtain ⟨ce253, hce253, hMe253, hcc253⟩ := Kd.N_get HO_7.out [] (ji51) p253 (by first | exact q253 | exact of_decide_eq_true (by first | (with_reducible assumption) | assumption) | (have e_ := (Kd.N_reads' HO_7.out).1; omega))
   obtain ⟨ua253_0, uc253_0, rfl, ul253_0, ge253_0⟩ := FK_own_open hMe253
   have hv253_0 := hcc253 0 _ rfl
   rw [Nat.add_zero, show ((ownd 81 k81 w.heap.size)).sz = 1 from rfl, Nat.mul_one] at hv253_0
   replace hv253_0 := Option.some.inj (hv253_0.symm.trans hx253_0)
   injection hv253_0 with hva_ hvn_ hvc_
   rw [hva_] at ge253_0
   rw [hvc_] at ul253_0
   have HL253_0 := Aside0.mk (show Kd.V k81 81 _ w.heap.size _ _ (rd_Lparts x7_2 (ji51)) from Kd.V_mk ul253_0 ge253_0)
   clear hva_ hvn_ hvc_ ge253_0 ul253_0
   clear hcc253 hce253
   have HR253_0 := Aside0.mk hi253_0
   have HC253_0 := Aside0.mk hl253_0
   clear hi253_0 hl253_0
   replace p253 := eq_true p253
   replace q253 := eq_true q253
   refine start_ (n := 19) (S := fun w' => w'.cell? (ad249.add (t231).toNat) = some (.slice A249_0 (rd_Lparts x7_2 t231).length c249_0) ∧ w'.cell? (ad249.add ((ji51)).toNat) = some (.slice A253_0 (rd_Lparts x7_2 (ji51)).length c253_0)) (ds := [11, 13, 16, 17]) #[false, false, false, false, false, false, false, false, false, false, false, false, false, false, false, false, false, false, false] (by kernel_rfl) rfl rfl ⟨hx249_0, hx253_0⟩ (fun hHeld => ?_)
   generalize w67.drew = wd_ at HO_7 HI0 HK HB HL249_0 HL253_0 HR249_0 HR253_0 hx249_0 hx253_0 hHeld ⊢
   refine pure_ (i := 1) (N := some 75) (v := ?_) (a' := ?_) #[false, true, false, false, false, false, false, false, false, false, false, false, false, false, false, false, false, false, false] rfl rfl (by kernel_rfl) (fun _ _ _ h => h) (Or.inl ⟨by rfl, ?_⟩) ?_ ?_
   rotate_left
   ·intro w'
    go_simp
    with_reducible rfl
   rotate_left
   ·simp only [Act.put, List.setIfInBounds_toArray, List.set_cons_zero, List.set_cons_succ, i64_w, i32_w]
    rfl
   refine pure_ (i := 2) (N := some 76) (v := ?_) (a' := ?_) #[false, true, true, false, false, false, false, false, false, false, false, false, false, false, false, false, false, false, false] rfl rfl (by kernel_rfl) (fun _ _ _ h => h) (Or.inl ⟨by rfl, ?_⟩) ?_ ?_
   rotate_left
   ·intro w'
    go_simp
    with_reducible rfl
   rotate_left
   ·simp only [Act.put, List.setIfInBounds_toArray, List.set_cons_zero, List.set_cons_succ, i64_w, i32_w]
    rfl
   refine pure_ (i := 3) (N := some 77) (v := ?_) (a' := ?_) #[false, true, true, true, false, false, false, false, false, false, false, false, false, false, false, false, false, false, false] rfl rfl (by kernel_rfl) (fun _ _ _ h => h) (Or.inl ⟨by rfl, ?_⟩) ?_ ?_
   rotate_left
   ·intro w'
    go_simp
    with_reducible rfl
   rotate_left
   ·simp only [Act.put, List.setIfInBounds_toArray, List.set_cons_zero, List.set_cons_succ, i64_w, i32_w]
    rfl
   refine pure_ (i := 6) (N := some 80) (v := ?_) (a' := ?_) #[false, true, true, true, false, false, true, false, false, false, false, false, false, false, false, false, false, false, false] rfl rfl (by kernel_rfl) (fun _ _ _ h => h) (Or.inl ⟨by rfl, ?_⟩) ?_ ?_
   rotate_left
   ·intro w'
    go_simp
    with_reducible rfl
   rotate_left
   ·simp only [Act.put, List.setIfInBounds_toArray, List.set_cons_zero, List.set_cons_succ, i64_w, i32_w]
    rfl
   refine pure_ (i := 7) (N := some 81) (v := ?_) (a' := ?_) #[false, true, true, true, false, false, true, true, false, false, false, false, false, false, false, false, false, false, false] rfl rfl (by kernel_rfl) (fun _ _ _ h => h) (Or.inl ⟨by rfl, ?_⟩) ?_ ?_
   rotate_left
   ·intro w'
    go_simp
    with_reducible rfl
   rotate_left
   ·simp only [Act.put, List.setIfInBounds_toArray, List.set_cons_zero, List.set_cons_succ, i64_w, i32_w]
    rfl
   refine pure_ (i := 8) (N := some 82) (v := ?_) (a' := ?_) #[false, true, true, true, false, false, true, true, true, false, false, false, false, false, false, false, false, false, false] rfl rfl (by kernel_rfl) (fun _ _ _ h => h) (Or.inl ⟨by rfl, ?_⟩) ?_ ?_
   rotate_left
   ·intro w'
    go_simp
    with_reducible rfl
   rotate_left
   ·simp only [Act.put, List.setIfInBounds_toArray, List.set_cons_zero, List.set_cons_succ, i64_w, i32_w]
    rfl
   refine pure_ (i := 9) (N := some 83) (v := ?_) (a' := ?_) #[false, true, true, true, false, false, true, true, true, true, false, false, false, false, false, false, false, false, false] rfl rfl (by kernel_rfl) (fun _ _ _ h => h) (Or.inl ⟨by rfl, ?_⟩) ?_ ?_
   rotate_left
   ·intro w'
    go_simp
    with_reducible rfl
   rotate_left
   ·simp only [Act.put, List.setIfInBounds_toArray, List.set_cons_zero, List.set_cons_succ, i64_w, i32_w]
    rfl
   refine pure_ (i := 12) (N := some 86) (v := ?_) (a' := ?_) #[false, true, true, true, false, false, true, true, true, true, false, false, true, false, false, false, false, false, false] rfl rfl (by kernel_rfl) (fun _ _ _ h => h) (Or.inl ⟨by rfl, ?_⟩) ?_ ?_
   rotate_left
   ·intro w'
    go_simp
    with_reducible rfl
   rotate_left
   ·simp only [Act.put, List.setIfInBounds_toArray, List.set_cons_zero, List.set_cons_succ, i64_w, i32_w]
    rfl
   refine take_ (i := 4) (N := some 78) (v := ?_) (a' := ?_) #[false, true, true, true, true, false, true, true, true, true, false, false, true, false, false, false, false, false, false] rfl rfl (by kernel_rfl) (fun _ _ _ h => h) (Or.inl ⟨by rfl, ?_⟩) hHeld ?_ ?_
   rotate_left
   ·rintro w' ⟨s0, s1⟩
    go_simp
    with_reducible rfl
   rotate_left
   ·simp only [Act.put, List.setIfInBounds_toArray, List.set_cons_zero, List.set_cons_succ, i64_w, i32_w]
    rfl
   refine take_ (i := 10) (N := some 84) (v := ?_) (a' := ?_) #[false, true, true, true, true, false, true, true, true, true, true, false, true, false, false, false, false, false, false] rfl rfl (by kernel_rfl) (fun _ _ _ h => h) (Or.inl ⟨by rfl, ?_⟩) hHeld ?_ ?_
   rotate_left
   ·rintro w' ⟨s0, s1⟩
    go_simp
    with_reducible rfl
   rotate_left
   ·simp only [Act.put, List.setIfInBounds_toArray, List.set_cons_zero, List.set_cons_succ, i64_w, i32_w]
    rfl
   refine one_ (i := 0) (N := some 74) #[true, true, true, true, true, false, true, true, true, true, true, false, true, false, false, false, false, false, false] rfl rfl (by kernel_rfl) (by decide) (fun K hK => ?_)
   refine Kd.R_lit_step k81 _ 81 (by rfl) (N := 74) rfl (xs := ([] : List (S81))) (inner := []) (ok := fun _ => True) (okp := fun _ => True) ?hr ?hp (fun _ hk => hk) trivial (Below.refl _ _) (Nat.le_refl _) (by simp) ?_
   (case hr => first | (go_simp; done) | (go_simp; rfl))
   (case hp => exact (Reps.none _ _))
   intro v247 w68 ho69 hb hg_ hnew_
   clear hg_ hnew_
   (first | rw [← Ny246.out] at ho69 | (simp only [Int.reduceToNat] at ho69; rw [← Ny246.out] at ho69))
   have nl1_ := Aside0.mk (Kd.V_elder' HL249_0.out (Kd.R_base ho69) hb)
   have nl2_ := Aside0.mk (Kd.V_elder' HL253_0.out (Kd.R_base ho69) hb)
   have ns1_ := cell_old hHeld.1 hb
   have ns2_ := cell_old hHeld.2 hb
   clear HL249_0
   clear HL253_0
   clear hHeld
   have HL249_0 := nl1_
   have HL253_0 := nl2_
   clear nl1_ nl2_
   replace HO_7 := Aside0.mk (Kd.N_elder' (Kd.N_below HO_7.out lt_) (Kd.R_base ho69) hb)
   have HO248 := Aside0.mk (Kd.R_lower ho69 (keep_size (w := w) (g := g) (row := none) (keep_at HK.out)))
   replace HI0 := Aside0.mk (IsS124.below (IsS124.below HI0.out lt_) hb)
   replace HK := Aside0.mk (KeepBut.trans (keep_at HK.out) (KeepBut.of_below hb g none) (.inl rfl))
   replace HB := Aside0.mk (below_step (below_at HB.out) hb)
   clear hb ho69
   refine hK.out _ _ ⟨ns1_, ns2_⟩ (fun hHeld => ?_)
   clear hK K
   refine norm_ (a' := ?_) ?_ ?_
   rotate_left
   ·show Act.put _ (some 74) _ = _
    simp only [Act.put, List.setIfInBounds_toArray, List.set_cons_zero, List.set_cons_succ, i64_w, i32_w]
    rfl
   clear ns1_ ns2_
   refine one_ (i := 5) (N := some 79) #[true, true, true, true, true, true, true, true, true, true, true, false, true, false, false, false, false, false, false] rfl rfl (by kernel_rfl) (by decide) (fun K hK => ?_)
   refine Kd.R_append_rows_step k81 w.heap.size (by rfl) (.tmp 74) (.tmp 78) 56 81 (.agg #[(.int .i64 0), (.int .i64 0)]) 16 rfl Try.underlying56 info81p rfl (by decide) (by omega) v247 y246 (rd_Lparts x7_2 t231) _ _ _ (fun _ => True) (fun _ => False) rfl rfl ?aO ?aR (fun _ _ h => h) (fun _ h => h.elim) ?aF (Below.refl _ _) ?aS ?aL ?_
   (case aR => exact Kd.F_now (Kd.V_F HL249_0.out))
   (case aF => exact (fun _ _ => trivial))
   (case aO => exact (Kd.R_below HO248.out lt_))
   (case aS => exact (keep_size (w := w) (g := g) (row := none) (keep_at HK.out)))
   (case aL => have := LMc50.out; omega)
   intro v251 w70 ho hb hg hat
   rw [← Ny250.out] at ho
   have ns1_ := cell_apart hHeld.1 hg (HO_7.out.1 _ rfl).2
   have ns2_ := cell_apart hHeld.2 hg (HO_7.out.1 _ rfl).2
   clear hHeld
   have n0_ := Aside0.mk (Kd.N_afterv (ok := (fun k_ => k_ ≠ g)) (Kd.N_below HO_7.out lt_) hg hat)
   have n1_ := Aside0.mk (IsS124.grown (IsS124.below HI0.out lt_) hg (IsS124.own_ne HI0.out HO248.out (by decide)))
   have n2_ := Aside0.mk (Kd.V_afterv (ok := (fun k_ => some k_ ≠ (.slice (some ad249) x7_2.length co65 : Value).ownBlock ∧ k_ ≠ g)) (Kd.V_mono HL249_0.out (fun _ hk => ⟨⟨hk.1.2, hk.1.1⟩, hk.2⟩)) hg hat)
   have nl2_ := Aside0.mk (Kd.V_afterv (ok := (fun k_ => some k_ ≠ (.slice (some ad249) x7_2.length co65 : Value).ownBlock ∧ k_ ≠ g)) (Kd.V_mono HL253_0.out (fun _ hk => ⟨⟨hk.1.2, hk.1.1⟩, hk.2⟩)) hg hat)
   have n3_ := Aside0.mk (below_weaken (below_at HB.out) HL.out hb)
   have n4_ := Aside0.mk (KeepBut.trans (keep_at HK.out) (KeepBut.of_grown hg g) (Kd.R_base2 HO248.out))
   have n5_ := Aside0.mk (ho)
   clear HO_7
   clear HI0
   clear HL249_0
   clear HL253_0
   have HL253_0 := nl2_
   clear nl2_
   clear HB
   clear HK
   clear HO248
   have HO_7 := n0_
   have HI0 := n1_
   have HL249_0 := n2_
   have HB := n3_
   have HK := n4_
   have HO252 := n5_
   clear n0_ n1_ n2_ n3_ n4_ n5_
   clear ho hb hg hat
   refine hK.out _ _ ⟨ns1_, ns2_⟩ (fun hHeld => ?_)
   clear hK K
   refine norm_ (a' := ?_) ?_ ?_
   rotate_left
   ·show Act.put _ (some 79) _ = _
    simp only [Act.put, List.setIfInBounds_toArray, List.set_cons_zero, List.set_cons_succ, i64_w, i32_w]
    rfl
   clear ns1_ ns2_
   refine last_ (i := 11) (N := some 85) #[true, true, true, true, true, true, true, true, true, true, true, true, true, false, false, false, false, false, false] rfl rfl (by kernel_rfl) (by decide) (fun K hK => ?_)
   refine Kd.R_append_rows_step k81 w.heap.size (by rfl) (.tmp 79) (.tmp 84) 56 81 (.agg #[(.int .i64 0), (.int .i64 0)]) 16 rfl Try.underlying56 info81p rfl (by decide) (by omega) v251 y250 (rd_Lparts x7_2 (ji51)) _ _ _ (fun _ => True) (fun _ => False) rfl rfl ?aO ?aR (fun _ _ h => h) (fun _ h => h.elim) ?aF (Below.refl _ _) ?aS ?aL ?_
   (case aR => exact Kd.F_now (Kd.V_F HL253_0.out))
   (case aF => exact (fun _ _ => trivial))
   (case aO => exact (Kd.R_below HO252.out lt_))
   (case aS => exact (keep_size (w := w) (g := g) (row := none) (keep_at HK.out)))
   (case aL => have := LMc54.out; omega)
   intro v255 w71 ho hb hg hat
   rw [← Ny254.out] at ho
   replace HO_7 := Aside0.mk (Kd.N_afterv (ok := (fun k_ => k_ ≠ g)) (Kd.N_below HO_7.out lt_) hg hat)
   replace HI0 := Aside0.mk (IsS124.grown (IsS124.below HI0.out lt_) hg (IsS124.own_ne HI0.out HO252.out (by decide)))
   replace HB := Aside0.mk (below_weaken (below_at HB.out) HL.out hb)
   replace HK := Aside0.mk (KeepBut.trans (keep_at HK.out) (KeepBut.of_grown hg g) (Kd.R_base2 HO252.out))
   have HO256 := Aside0.mk (ho)
   (try clear HL249_0 HL253_0 HO252)
   clear ho hb hg hat
   refine hK.out _ _ ?_
   clear hK K
   refine norm_ (a' := ?_) ?_ ?_
   rotate_left
   ·show Act.put _ (some 85) _ = _
    simp only [Act.put, List.setIfInBounds_toArray, List.set_cons_zero, List.set_cons_succ, i64_w, i32_w]
    rfl
   refine last_ (i := 13) (N := some 87) #[true, true, true, true, true, true, true, true, true, true, true, true, true, true, false, false, false, false, false] rfl rfl (by kernel_rfl) (by decide) (fun K hK => ?_)
   refine goes_ Try.func107 (by kernel_rfl) rfl #[.pointer (some ⟨g, 0, none⟩), .int .i64 3] (by rfl) rfl rfl (by (try simp only [List.map_toArray, List.map_cons, List.map_nil]); first | done | rfl | (simp only [List.length_drop, List.length_take]; rfl)) ?_
   (with_reducible refine (spec_l20Rd_pick.calls k2 g s0_0 t234 3 t257 t258 w0 _ ?side1 ?side2 A55.out).mono ?_)
   (case side1 => exact IsS124.below HI0.out lt_)
   (case side2 => exact below_at HB.out)
   rintro e w72 ⟨rfl, hi, hb, hk⟩
   refine ⟨_, rfl, ?_⟩
   replace HO_7 := Aside0.mk (Kd.N_mono (Kd.N_keep (Kd.N_mono (ok := fun k_ => (k_ ≠ g ∧ some k_ ≠ (v255 : Value).ownBlock)) (Kd.N_below HO_7.out lt_) (fun k_ hk_ => (⟨hk_, hk_.1⟩ : _ ∧ k_ ≠ g))) hk (fun _ h => h.2)) (fun _ h => h.1))
   replace HO256 := Aside0.mk (Kd.R_mono (Kd.R_keep (IsS124.apart (show IsS124 w0 _ g s0_0 t234 from IsS124.below HI0.out lt_) (Kd.R_below HO256.out lt_) (by decide)) hk (fun _ h => h.2)) (fun _ h => h.1))
   replace HK := Aside0.mk (KeepBut.trans (keep_at HK.out) hk (.inl rfl))
   replace HB := Aside0.mk (hb)
   replace HI0 := Aside0.mk (hi)
   (try clear HL249_0 HL253_0)
   (try clear hb)
   (try clear hb2)
   (try clear hk)
   (try clear hi)
   refine hK.out _ _ ?_
   clear hK K
   refine norm_ (a' := ?_) ?_ ?_
   rotate_left
   ·show Act.put _ (some 87) _ = _
    simp only [Act.put, List.setIfInBounds_toArray, List.set_cons_zero, List.set_cons_succ, i64_w, i32_w]
    rfl
   refine pure_ (i := 14) (N := some 88) (v := ?_) (a' := ?_) #[true, true, true, true, true, true, true, true, true, true, true, true, true, true, true, false, false, false, false] rfl rfl (by kernel_rfl) (fun _ _ _ h => h) (Or.inl ⟨by rfl, ?_⟩) ?_ ?_
   rotate_left
   ·intro w'
    go_simp
    with_reducible rfl
   rotate_left
   ·simp only [Act.put, List.setIfInBounds_toArray, List.set_cons_zero, List.set_cons_succ, i64_w, i32_w]
    rfl
   refine pure_ (i := 15) (N := some 89) (v := ?_) (a' := ?_) #[true, true, true, true, true, true, true, true, true, true, true, true, true, true, true, true, false, false, false] rfl rfl (by kernel_rfl) (fun _ _ _ h => h) (Or.inl ⟨by rfl, ?_⟩) ?_ ?_
   rotate_left
   ·intro w'
    go_simp
    with_reducible rfl
   rotate_left
   ·simp only [Act.put, List.setIfInBounds_toArray, List.set_cons_zero, List.set_cons_succ, i64_w, i32_w]
    rfl
   refine last_ (i := 16) (N := some 90) #[true, true, true, true, true, true, true, true, true, true, true, true, true, true, true, true, true, false, false] rfl rfl (by kernel_rfl) (by decide) (fun K hK => ?_)
   refine value_ (w1 := ?_) (v := ?_) (by rfl) rfl ?_ ?_
   rotate_left 2
   ·go_simp
    constructor
    ·rfl
    rfl
   refine hK.out _ _ ?_
   clear hK K
   refine norm_ (a' := ?_) ?_ ?_
   rotate_left
   ·show Act.put _ (some 90) _ = _
    simp only [Act.put, List.setIfInBounds_toArray, List.set_cons_zero, List.set_cons_succ, i64_w, i32_w]
    rfl
   refine last_ (i := 17) (N := some 91) #[true, true, true, true, true, true, true, true, true, true, true, true, true, true, true, true, true, true, false] rfl rfl (by kernel_rfl) (by decide) (fun K hK => ?_)
   refine Kd.R_append_step k81 w.heap.size (by rfl) (.tmp 85) (.tmp 90) 56 81 (.agg #[(.int .i64 0), (.int .i64 0)]) 16 rfl Try.underlying56 info81p rfl (by decide) (by omega) v255 y254 (⟨wrap64 (3 + t257), 0⟩ : S81) [.int .i64 (wrap64 (3 + t257)), .int .i64 0] (fun _ => True) (fun _ => False) rfl rfl ?aP (fun _ hk => hk.elim) ?aF ?aO (Below.refl _ _) ?aS ?aL ?_
   (case aP => exact k81_mkM _ _ _ (⟨wrap64 (3 + t257), 0⟩ : S81))
   (case aF => exact (fun _ _ => trivial))
   (case aO => exact (Kd.R_below HO256.out lt_))
   (case aS => exact (keep_size (w := w) (g := g) (row := none) (keep_at HK.out)))
   (case aL => have := LMc56.out; omega)
   intro v260 w73 ho hb hg hat
   rw [← Ny259.out] at ho
   replace HO_7 := Aside0.mk (Kd.N_afterv (ok := (fun k_ => k_ ≠ g)) (Kd.N_below HO_7.out lt_) hg hat)
   replace HI0 := Aside0.mk (IsS124.grown (IsS124.below HI0.out lt_) hg (IsS124.own_ne HI0.out HO256.out (by decide)))
   replace HB := Aside0.mk (below_weaken (below_at HB.out) HL.out hb)
   replace HK := Aside0.mk (KeepBut.trans (keep_at HK.out) (KeepBut.of_grown hg g) (Kd.R_base2 HO256.out))
   have HO261 := Aside0.mk (ho)
   (try clear HL249_0 HL253_0 HO256)
   clear ho hb hg hat
   refine hK.out _ _ ?_
   clear hK K
   refine norm_ (a' := ?_) ?_ ?_
   rotate_left
   ·show Act.put _ (some 91) _ = _
    simp only [Act.put, List.setIfInBounds_toArray, List.set_cons_zero, List.set_cons_succ, i64_w, i32_w]
    rfl
   refine pure_ (i := 18) (N := some 11) (v := ?_) (a' := ?_) #[true, true, true, true, true, true, true, true, true, true, true, true, true, true, true, true, true, true, true] rfl rfl (by kernel_rfl) (fun _ _ _ h => h) (Or.inl ⟨by rfl, ?_⟩) ?_ ?_
   rotate_left
   ·intro w'
    go_simp
    with_reducible rfl
   rotate_left
   ·simp only [Act.put, List.setIfInBounds_toArray, List.set_cons_zero, List.set_cons_succ, i64_w, i32_w]
    rfl
   refine done_ (by kernel_rfl) ?_
   go_wp2_with (first | ((with_reducible refine gate_dst (N := 92) rfl ?_); refine Kd.N_lit (ownd 81 k81 w.heap.size) _ 56 ?hg (N' := 92) ?hd (xs := ([] : List (List (S81)))) (inner := []) (ok := (fun k_ => some k_ ≠ (.slice (some ad249) x7_2.length co65 : Value).ownBlock ∧ some k_ ≠ (v260 : Value).ownBlock ∧ k_ ≠ g)) (okp := (fun k_ => some k_ ≠ (.slice (some ad249) x7_2.length co65 : Value).ownBlock ∧ some k_ ≠ (v260 : Value).ownBlock ∧ k_ ≠ g)) ?hr ?hp (fun _ hk => hk) ((show ∀ k_, w73.heap.size ≤ k_ → (fun k_ => some k_ ≠ (.slice (some ad249) x7_2.length co65 : Value).ownBlock ∧ some k_ ≠ (v260 : Value).ownBlock ∧ k_ ≠ g) k_ from fun k_ hk => ⟨Kd.fresh' (Kd.N_lt (Kd.N_below HO_7.out lt_)) k_ hk, Kd.fresh' (Kd.R_lt (Kd.R_below HO261.out lt_)) k_ hk, IsS124.fresh (IsS124.below HI0.out lt_) k_ hk⟩) _ (Nat.le_refl _)) (Below.refl _ _) (Nat.le_refl _) (by simp) ?_; (case hd => rfl); (case hg => rfl); (case hr => first | (go_simp; done) | (go_simp; rfl)); (case hp => exact (Reps.none _ _)); intro v263 w74 ho75 hb hg_ hnew_; clear hg_ hnew_; (first | rw [← Ny262.out] at ho75 | (simp only [Int.reduceToNat] at ho75; rw [← Ny262.out] at ho75)); replace HO_7 := Aside0.mk (Kd.N_elder' (Kd.N_below HO_7.out lt_) (Kd.N_base ho75) hb); replace HO261 := Aside0.mk (Kd.R_below (Kd.R_below HO261.out lt_) hb); have HO264 := Aside0.mk (Kd.N_lower ho75 (keep_size (w := w) (g := g) (row := none) (keep_at HK.out))); replace HI0 := Aside0.mk (IsS124.below (IsS124.below HI0.out lt_) hb); replace HK := Aside0.mk (KeepBut.trans (keep_at HK.out) (KeepBut.of_below hb g none) (.inl rfl)); replace HB := Aside0.mk (below_step (below_at HB.out) hb); (try clear HL249_0 HL253_0); clear hb ho75; have q76 : (t231 : Int) ≤ ((x7_2.length : Int) : Int) := of_decide_eq_true (by first | (with_reducible assumption) | assumption); obtain ⟨i076, hi076, _, hsz76, _⟩ := info_parts info56p; have hroom76 : x7_2.length ≤ co65 := (Kd.N_reads' HO_7.out).2.1; have hC76 : Kd.F (ownd 81 k81 w.heap.size) _ _ (some ad249) x7_2.length x7_2 := (Kd.V_at (base := w.heap.size) (Kd.N_V HO_7.out)).2.2; have hcut76 := cut_to (P := Try.prog) 73 56 .i64 Try.underlying73 hi076 (some ad249) x7_2.length co65 t231 (of_decide_eq_true (by first | (with_reducible assumption) | assumption)) q76 hroom76; have hr76 := Kd.F_take (m := (t231 : Int).toNat) hC76 (by omega); have hy76 : y265.length = (t231 : Int).toNat := (by rw [Ny265.out, List.length_take]; omega); rw [← Ny265.out] at hr76; rw [← hy76] at hcut76; have HO269 := Aside0.mk (show Kd.V (ownd 81 k81 w.heap.size) 56 _ w.heap.size _ (.slice (some ad249) y265.length co65) y265 from Kd.V_mk (by omega) hr76); have HC269 := Aside0.mk (show y265.length ≤ co65 from by omega); clear hr76 hC76 hroom76 hi076 hsz76; have KY76 := Aside0.mk hy76; clear hy76; replace q76 := eq_true q76) | ((with_reducible refine gate_builtin (b := .append) (xs := #[.tmp 92, .tmp 95]) rfl ?_); at_builtin; refine Kd.N_append_rows (ownd 81 k81 w.heap.size) w.heap.size rfl (.tmp 92) (.tmp 95) 73 56 (.slice none 0 0) 24 rfl Try.underlying73 info56p rfl Nat.one_pos (by omega) v263 y262 y265 _ _ _ (fun k_ => some k_ ≠ (v260 : Value).ownBlock ∧ k_ ≠ g) (fun k_ => ((fun k_ => some k_ ≠ (v260 : Value).ownBlock ∧ k_ ≠ g)) k_ ∧ some k_ ≠ (v263 : Value).ownBlock) rfl rfl ?aO ?aR (fun _ hk => hk) ?aF (Below.refl _ _) ?aS ?aL ?_; (case aR => exact (by skip; exact Kd.V_F (Kd.V_mono (ok' := (fun k_ => ((fun k_ => some k_ ≠ (v260 : Value).ownBlock ∧ k_ ≠ g)) k_ ∧ some k_ ≠ (v263 : Value).ownBlock)) (HO269.out) (fun k_ hk => ⟨⟨hk.1.2, hk.1.1⟩, hk.2⟩)))); (case aF => exact (fun k_ hk => ⟨Kd.fresh' (Kd.R_lt (Kd.R_below HO261.out lt_)) k_ hk, IsS124.fresh (IsS124.below HI0.out lt_) k_ hk⟩)); (case aO => exact (Kd.N_below (Kd.N_mono HO264.out (fun _ hk => ⟨hk.2.1, hk.2.2⟩)) lt_)); (case aS => exact (keep_size (w := w) (g := g) (row := none) (keep_at HK.out))); (case aL => have := LMc59.out; omega); intro v271 w77 ho hb hg hat; rw [← Ny270.out] at ho; replace HO_7 := Aside0.mk (Kd.N_afterv (ok := (fun k_ => some k_ ≠ (v260 : Value).ownBlock ∧ k_ ≠ g)) (Kd.N_below (Kd.N_mono HO_7.out (fun _ hk => ⟨⟨hk.1.2, hk.1.1⟩, hk.2⟩)) lt_) hg hat); replace HI0 := Aside0.mk (IsS124.grown (IsS124.below HI0.out lt_) hg (IsS124.own_neN HI0.out HO264.out (by decide))); replace HO261 := Aside0.mk (Kd.R_over' (Kd.R_below HO261.out lt_) (Kd.N_typed (Kd.N_below HO264.out lt_)) (by decide) hg); replace HB := Aside0.mk (below_weaken (below_at HB.out) HL.out hb); replace HK := Aside0.mk (KeepBut.trans (keep_at HK.out) (KeepBut.of_grown hg g) (Kd.N_base2 HO264.out)); have HO272 := Aside0.mk (ho); (try clear HL249_0 HL253_0 HO269 HO264); clear ho hb hg hat; obtain ⟨Ao79, co79, eo79⟩ := Kd.R_slice HO261.out; subst eo79) | ((with_reducible refine gate_builtin (b := .append) (xs := #[.tmp 97, .tmp 99]) rfl ?_); at_builtin; refine Kd.N_append (ownd 81 k81 w.heap.size) w.heap.size rfl (.tmp 97) (.tmp 99) 73 56 (.slice none 0 0) 24 rfl Try.underlying73 info56p rfl Nat.one_pos (by omega) v271 y270 y259 [.slice Ao79 y259.length co79] (fun k_ => k_ ≠ g) (fun k_ => ((fun k_ => k_ ≠ g)) k_ ∧ some k_ ≠ (v271 : Value).ownBlock) rfl rfl ?aP (fun _ hk => hk) ?aF ?aO (Below.refl _ _) ?aS ?aL ?_; (case aP => exact (FK_own_mk (Kd.R_mono (ok' := (fun k_ => ((fun k_ => k_ ≠ g)) k_ ∧ some k_ ≠ (v271 : Value).ownBlock)) (IsS124.apart HI0.out (Kd.R_apart' (HO261.out) (Kd.N_typed HO272.out) (by decide)) (by decide)) (fun k_ hk => ⟨hk.2, hk.1.2⟩)))); (case aF => exact (fun k_ hk => IsS124.fresh (IsS124.below HI0.out lt_) k_ hk)); (case aO => exact (Kd.N_below (Kd.N_mono HO272.out (fun _ hk => hk.2)) lt_)); (case aS => exact (keep_size (w := w) (g := g) (row := none) (keep_at HK.out))); (case aL => have := LMc60.out; omega); intro v274 w78 ho hb hg hat; rw [← Ny273.out] at ho; replace HO_7 := Aside0.mk (Kd.N_afterv (ok := (fun k_ => some k_ ≠ (.slice Ao79 y259.length co79 : Value).ownBlock ∧ k_ ≠ g)) (Kd.N_below HO_7.out lt_) hg hat); replace HI0 := Aside0.mk (IsS124.grown (IsS124.below HI0.out lt_) hg (IsS124.own_neN HI0.out HO272.out (by decide))); replace HB := Aside0.mk (below_weaken (below_at HB.out) HL.out hb); replace HK := Aside0.mk (KeepBut.trans (keep_at HK.out) (KeepBut.of_grown hg g) (Kd.N_base2 HO272.out)); have HO275 := Aside0.mk (ho); (try clear HL249_0 HL253_0 HO269 HO272 HO261); clear ho hb hg hat; have q80 : ((ji61) : Int) ≤ ((x7_2.length : Int) : Int) := of_decide_eq_true (by first | (with_reducible assumption) | assumption); obtain ⟨i080, hi080, _, hsz80, _⟩ := info_parts info56p; have hroom80 : x7_2.length ≤ co65 := (Kd.N_reads' HO_7.out).2.1; have hC80 : Kd.F (ownd 81 k81 w.heap.size) _ _ (some ad249) x7_2.length x7_2 := (Kd.V_at (base := w.heap.size) (Kd.N_V HO_7.out)).2.2; have q080 : (0 : Int) ≤ ((ji61) : Int) := of_decide_eq_true (by first | (with_reducible assumption) | assumption); have hcut80 := cut_from (P := Try.prog) 73 56 .i64 Try.underlying73 hi080 1 hsz80 (some ad249) x7_2.length co65 (ji61) q080 q80; have hr80 := Kd.F_cut (m := ((ji61) : Int).toNat) (c := co65) hC80 (by omega) hroom80; obtain ⟨A80, hA80⟩ : ∃ A1, A1 = (if co65 = ((ji61) : Int).toNat then (some ad249) else ((some ad249) : Option Addr).map (·.add (((ji61) : Int).toNat * 1))) := ⟨_, rfl⟩; obtain ⟨c80, hc80⟩ : ∃ c1, c1 = co65 - ((ji61) : Int).toNat := ⟨_, rfl⟩; have hy80 : y276.length = x7_2.length - ((ji61) : Int).toNat := (by rw [Ny276.out, List.length_drop] <;> omega); rw [show (x7_2).drop ((ji61) : Int).toNat = y276 from Ny276.out.symm] at hr80; replace hr80 : Kd.F (ownd 81 k81 w.heap.size) _ _ A80 y276.length y276 := (by rw [hA80]; exact hr80); rw [← hy80, ← hA80, ← hc80] at hcut80; have HO280 := Aside0.mk (show Kd.V (ownd 81 k81 w.heap.size) 56 _ w.heap.size _ (.slice A80 y276.length c80) y276 from Kd.V_mk (by rw [hy80, hc80]; exact Nat.sub_le_sub_right hroom80 _) hr80); have HC280 := Aside0.mk (show y276.length ≤ c80 from by rw [hy80, hc80]; exact Nat.sub_le_sub_right hroom80 _); clear hr80 hC80 hroom80 hi080 hsz80 hc80; have KY80 := Aside0.mk hy80; have KA80 := Aside0.mk hA80; clear hy80 hA80; replace q80 := eq_true q80) | ((with_reducible refine gate_builtin (b := .append) (xs := #[.tmp 101, .tmp 105]) rfl ?_); at_builtin; refine Kd.N_append_rows (ownd 81 k81 w.heap.size) w.heap.size rfl (.tmp 101) (.tmp 105) 73 56 (.slice none 0 0) 24 rfl Try.underlying73 info56p rfl Nat.one_pos (by omega) v274 y273 y276 _ _ _ (fun k_ => k_ ≠ g) (fun k_ => ((fun k_ => k_ ≠ g)) k_ ∧ some k_ ≠ (v274 : Value).ownBlock) rfl rfl ?aO ?aR (fun _ hk => hk) ?aF (Below.refl _ _) ?aS ?aL ?_; (case aR => exact (by skip; exact Kd.V_F (Kd.V_mono (ok' := (fun k_ => ((fun k_ => k_ ≠ g)) k_ ∧ some k_ ≠ (v274 : Value).ownBlock)) (HO280.out) (fun k_ hk => ⟨hk.1.2, hk.2⟩)))); (case aF => exact (fun k_ hk => IsS124.fresh (IsS124.below HI0.out lt_) k_ hk)); (case aO => exact (Kd.N_below HO275.out lt_)); (case aS => exact (keep_size (w := w) (g := g) (row := none) (keep_at HK.out))); (case aL => have := LMc64.out; omega); intro v282 w81 ho hb hg hat; rw [← Ny281.out] at ho; replace HI0 := Aside0.mk (IsS124.grown (IsS124.below HI0.out lt_) hg (IsS124.own_neN HI0.out HO275.out (by decide))); replace HB := Aside0.mk (below_weaken (below_at HB.out) HL.out hb); replace HK := Aside0.mk (KeepBut.trans (keep_at HK.out) (KeepBut.of_grown hg g) (Kd.N_base2 HO275.out)); have HO283 := Aside0.mk (ho); (try clear HO_7 HL249_0 HL253_0 HO269 HO280 HO275); clear ho hb hg hat))
   (try subst hji61)
   (try subst hji51)
   go_roundg k2
   case measure => have := HK1.out; have := HK2.out; omega
   case rel => exact ⟨(y281), (x9_2), (t258), (by first | rfl | (simp; done) | (simp [*]; done)), H', ⟨by have := HK1.out; have := HK2.out; omega⟩, ⟨Kd.N_below HO283.out lt_⟩, ⟨IsS124.below HI0.out lt_⟩, ⟨keep_at HK.out⟩, ⟨below_at HB.out⟩⟩


end Go.Proofs.Ytbhmippoeimliaa.P

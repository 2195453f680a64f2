/- Go's functions come to just the answers of the Lean functions told here. -/
import Derived.Test.YtcaogllnbpmcgaaPx19
namespace Go.Proofs.Ytcaogllnbpmcgaa.P
open Go.RowKit Go.Proofs.YtcaogllnbpmcgaaW.PrintWords Go.Proofs.YtcaogllnbpmcgaaW.PrintLast Go.Proofs.YtcaogllnbpmcgaaW.PrintMore
attribute [local go_sem] max2_int min2_int max_two min_two max_three min_three max_four min_four
set_option linter.unusedVariables false
set_option linter.unusedSimpArgs false
-- HAND rounds=1 making=1
/-! A row's rows each of the call's own, however often they are led to. -/
def ownd {α : Type} (e : Nat) (d : Kd α) (b : Nat) : Kd (List α) where
  sz := 1
  E := e :: d.E
  K := fun w xs cs => ∃ v, cs = [v] ∧ d.R e w b (fun _ => True) v xs
  M := fun w base ok xs cs => ∃ v, cs = [v] ∧ d.R e w (max b base) ok v xs
  K_len := by
    rintro w x cs ⟨v, rfl, _⟩
    rfl
  K_one := by
    rintro w x cs ⟨v, rfl, h⟩ u hu
    rw [List.mem_singleton.1 hu]
    obtain ⟨A, c, rfl⟩ := Kd.R_slice h
    rfl
  K_below := by
    rintro w w1 x cs hb ⟨v, rfl, h⟩
    exact ⟨v, rfl, Kd.R_below h hb⟩
  K_of_M := by
    rintro w base ok x cs ⟨v, rfl, h⟩
    exact ⟨v, rfl, Kd.R_mono (Kd.R_lower h (Nat.le_max_left _ _)) (fun _ _ => trivial)⟩
  M_mono := by
    rintro w base ok ok' x cs hok ⟨v, rfl, h⟩
    exact ⟨v, rfl, Kd.R_mono h hok⟩
  M_bound := by
    rintro w base ok x cs ⟨v, rfl, h⟩
    exact ⟨v, rfl, Kd.R_mono (Kd.R_bound h) (fun k hk => ⟨hk.1, Nat.le_trans (Nat.le_max_right _ _) hk.2.1, hk.2.2⟩)⟩
  M_move := by
    rintro w w1 base ok x cs hm ⟨v, rfl, h⟩
    exact ⟨v, rfl, Kd.R_move h hm⟩
  M_lower := by
    rintro w base base' ok x cs hb ⟨v, rfl, h⟩
    exact ⟨v, rfl, Kd.R_lower h (by omega)⟩
theorem own_K {α : Type} {e b : Nat} {d : Kd α} {w : World} {l : List α} {c : List Value} (h : (ownd e d b).K w l c) : (Kd.slice e d).K w l c := by
  obtain ⟨v, rfl, h⟩ := h
  obtain ⟨A, c, rfl, hl, hC⟩ := Kd.R_reads h
  exact ⟨A, c, rfl, hl, hC⟩
theorem own_C {α : Type} {e b n : Nat} {d : Kd α} {w : World} {A : Option Addr} {l : List (List α)} (h : (ownd e d b).C w A n l) : (Kd.slice e d).C w A n l :=
  ⟨h.1, h.2.1, fun hn => by
    obtain ⟨ad, ea, hc⟩ := h.2.2 hn
    refine ⟨ad, ea, fun j p hj => ?_⟩
    obtain ⟨c, hs, hr, hcell⟩ := hc j p hj
    exact ⟨c, hs, own_K hr, hcell⟩⟩
theorem FK_own_open {α : Type} {e b : Nat} {d : Kd α} {W : World} {ok : Nat → Prop} {l : List α} {cs : List Value} (h : Kd.FK (ownd e d b) W ok l cs) : ∃ A c, cs = [.slice A l.length c] ∧ l.length ≤ c ∧ Kd.F d W ok A l.length l :=
  Kd.FK_slice_open (e := e) (Foot.imp h (fun _ h => own_K h))
theorem FK_own_mk {α : Type} {e b : Nat} {d : Kd α} {W : World} {ok : Nat → Prop} {l : List α} {v : Value} (h : d.R e W b ok v l) : Kd.FK (ownd e d b) W ok l [v] := fun _ hW => ⟨v, rfl, Kd.R_mono (Kd.R_step h hW) (fun _ _ => trivial)⟩
theorem cell_old {w w1 : World} {a : Addr} {v : Value} (h : w.cell? a = some v) (hb : Below w.heap.size w w1) : w1.cell? a = some v := Kd.cell_heap (fun k hk => hb.block k hk) h
theorem cell_apart {w w1 : World} {row : Option Nat} {a : Addr} {i : Nat} {v : Value} (h : w.cell? (a.add i) = some v) (hg : w.grownBy w1 row) (hne : some a.block ≠ row) : w1.cell? (a.add i) = some v := by
  have hb : (a.add i).block = a.block := by
    unfold Addr.add
    split <;> rfl
  have := hg.block a.block (by have h2 := World.block_lt_of_cell? w (a.add i) h; rwa [hb] at h2) hne
  simpa [World.cell?, hb, this] using h
theorem info36p : (Try.prog.info? 36).map (fun i => (i.zero, i.size, i.bytes)) = some (some (.slice none 0 0), 1, 24) := by kernel_rfl
theorem info47p : (Try.prog.info? 47).map (fun i => (i.zero, i.size, i.bytes)) = some (some (.agg #[(.int .i64 0), (.int .i64 0)]), 2, 16) := by kernel_rfl
def rd_Lparts (xs : List (List S47)) (i : Int) : List S47 := xs.getD i.toNat ([] : List S47)
theorem at_Lparts {w : World} {A : Option Addr} {n : Nat} {xs : List (List S47)} (h : Kd.C (Kd.slice 47 k47) w A n xs) (i : Int) (h0 : 0 ≤ i) (h1 : i < n) : ∃ ad A0 c0, A = some ad ∧ w.cell? (ad.add i.toNat) = some (.slice A0 (rd_Lparts xs i).length c0) ∧ (rd_Lparts xs i).length ≤ c0 ∧ k47.C w A0 (rd_Lparts xs i).length (rd_Lparts xs i) := by
  obtain ⟨ad, c, e, _, hK, hc0⟩ := Kd.C_get h ([] : List S47) i h0 h1
  have hc : ∀ j u, c[j]? = some u → w.cell? (ad.add (i.toNat * 1 + j)) = some u := hc0
  obtain ⟨A0, c0, rfl, l0, g0⟩ := hK
  exact ⟨ad, A0, c0, e, by have hq := hc 0 _ rfl; rwa [Nat.mul_one, Nat.add_zero] at hq, l0, g0⟩
mutual
def spec_l20Term.l0 : Nat → Int → Int → List (List (S47)) → Int → List Int → Int → Option ((List (S47)) × Int)
 | 0, _, _, _, _, _, _ => none
 | k + 1, x1, x2, x7, x8, x1000, x1001 => if x8 > 0 then ((spec_l20Rd_pick.f k x1000 x1001 4).bind fun bt235 => (if bt235.1 = 0 then ((spec_l20Rd_pick.f k x1000 bt235.2 (wrap64 (x1 + 2))).bind fun bt237 => (if x7.length < 5864062014805 then (spec_l20Term.l0 k x1 x2 (x7 ++ [(([(⟨1, bt237.1⟩ : S47)] : List (S47)))]) (wrap64 (x8 - 1)) x1000 bt237.2) else (none))) else ((spec_l20Rd_pick.f k x1000 bt235.2 x1).bind fun bt245 => (if x7.length < 5864062014805 then (spec_l20Term.l0 k x1 x2 (x7 ++ [(([(⟨0, bt245.1⟩ : S47)] : List (S47)))]) (wrap64 (x8 - 1)) x1000 bt245.2) else (none))))) else (spec_l20Term.l1 k x2 x7 3 x1000 x1001)
def spec_l20Term.l1 : Nat → Int → List (List (S47)) → Int → List Int → Int → Option ((List (S47)) × Int)
 | 0, _, _, _, _, _ => none
 | k + 1, x2, x7, x9, x1000, x1001 => if (x7.length : Int) > 1 then ((spec_l20Rd_pick.f k x1000 x1001 (wrap64 ((x7.length : Int) - 1))).bind fun bt253 => (if x9 > 0 then ((spec_l20Rd_pick.f k x1000 bt253.2 4).bind fun bt255 => (if bt255.1 = 0 then ((some (([] : List (S47)) : List (S47))).bind fun y257 => (if 0 ≤ bt253.1 then (if bt253.1 < (x7.length : Int) then (if y257.length + (rd_Lparts x7 bt253.1).length < 8796093022208 then ((some (y257 ++ (rd_Lparts x7 bt253.1) : List (S47))).bind fun y261 => (if y261.length < 8796093022208 then (spec_l20Term.l1 k x2 (x7.set (bt253.1 : Int).toNat (y261 ++ [(⟨2, 0⟩ : S47)])) (wrap64 (x9 - 1)) x1000 bt255.2) else (none))) else (none)) else (none)) else (none))) else ((some (([] : List (S47)) : List (S47))).bind fun y268 => (if 0 ≤ bt253.1 then (if bt253.1 < (x7.length : Int) then (if y268.length + (rd_Lparts x7 bt253.1).length < 8796093022208 then ((some (y268 ++ (rd_Lparts x7 bt253.1) : List (S47))).bind fun y272 => (if 0 ≤ (wrap64 (bt253.1 + 1)) then (if (wrap64 (bt253.1 + 1)) < (x7.length : Int) then (if y272.length + (rd_Lparts x7 (wrap64 (bt253.1 + 1))).length < 8796093022208 then ((some (y272 ++ (rd_Lparts x7 (wrap64 (bt253.1 + 1))) : List (S47))).bind fun y276 => ((spec_l20Rd_pick.f k x1000 bt255.2 3).bind fun bt279 => (if y276.length < 8796093022208 then ((some (([] : List (List (S47))) : List (List (S47)))).bind fun y284 => (if bt253.1 ≤ (x7.length : Int) then ((some (x7.take (bt253.1 : Int).toNat : List (List (S47)))).bind fun y287 => (if y284.length + y287.length < 5864062014805 then ((some (y284 ++ y287 : List (List (S47)))).bind fun y292 => (if y292.length < 5864062014805 then ((some (y292 ++ [(y276 ++ [(⟨wrap64 (3 + bt279.1), 0⟩ : S47)])] : List (List (S47)))).bind fun y295 => (if 0 ≤ (wrap64 (bt253.1 + 2)) then (if (wrap64 (bt253.1 + 2)) ≤ (x7.length : Int) then ((some (x7.drop ((wrap64 (bt253.1 + 2)) : Int).toNat : List (List (S47)))).bind fun y298 => (if y295.length + y298.length < 5864062014805 then (spec_l20Term.l1 k x2 (y295 ++ y298) x9 x1000 bt279.2) else (none))) else (none)) else (none))) else (none))) else (none))) else (none))) else (none)))) else (none)) else (none)) else (none))) else (none)) else (none)) else (none))))) else ((some (([] : List (S47)) : List (S47))).bind fun y306 => (if 0 ≤ bt253.1 then (if bt253.1 < (x7.length : Int) then (if y306.length + (rd_Lparts x7 bt253.1).length < 8796093022208 then ((some (y306 ++ (rd_Lparts x7 bt253.1) : List (S47))).bind fun y310 => (if 0 ≤ (wrap64 (bt253.1 + 1)) then (if (wrap64 (bt253.1 + 1)) < (x7.length : Int) then (if y310.length + (rd_Lparts x7 (wrap64 (bt253.1 + 1))).length < 8796093022208 then ((some (y310 ++ (rd_Lparts x7 (wrap64 (bt253.1 + 1))) : List (S47))).bind fun y314 => ((spec_l20Rd_pick.f k x1000 bt253.2 3).bind fun bt317 => (if y314.length < 8796093022208 then ((some (([] : List (List (S47))) : List (List (S47)))).bind fun y322 => (if bt253.1 ≤ (x7.length : Int) then ((some (x7.take (bt253.1 : Int).toNat : List (List (S47)))).bind fun y325 => (if y322.length + y325.length < 5864062014805 then ((some (y322 ++ y325 : List (List (S47)))).bind fun y330 => (if y330.length < 5864062014805 then ((some (y330 ++ [(y314 ++ [(⟨wrap64 (3 + bt317.1), 0⟩ : S47)])] : List (List (S47)))).bind fun y333 => (if 0 ≤ (wrap64 (bt253.1 + 2)) then (if (wrap64 (bt253.1 + 2)) ≤ (x7.length : Int) then ((some (x7.drop ((wrap64 (bt253.1 + 2)) : Int).toNat : List (List (S47)))).bind fun y336 => (if y333.length + y336.length < 5864062014805 then (spec_l20Term.l1 k x2 (y333 ++ y336) x9 x1000 bt317.2) else (none))) else (none)) else (none))) else (none))) else (none))) else (none))) else (none)))) else (none)) else (none)) else (none))) else (none)) else (none)) else (none))))) else (if 0 < (x7.length : Int) then ((some (([] : List (S47)) : List (S47))).bind fun y345 => (if y345.length + (rd_Lparts x7 0).length < 8796093022208 then ((some (y345 ++ (rd_Lparts x7 0) : List (S47))).bind fun y348 => ((spec_l20Rd_pick.f k x1000 x1001 5).bind fun bt351 => (if bt351.1 = 0 then (if y348.length < 8796093022208 then (spec_l20Term.j2 k x2 (y348 ++ [(⟨2, 0⟩ : S47)]) x1000 bt351.2) else (none)) else (spec_l20Term.j2 k x2 y348 x1000 bt351.2)))) else (none))) else (none))
def spec_l20Term.j2 : Nat → Int → List (S47) → List Int → Int → Option ((List (S47)) × Int)
 | 0, _, _, _, _ => none
 | k + 1, x2, x13, x1000, x1001 => (spec_l20Rd_odd.f k x1000 x1001 x2).bind fun bt356 => (if bt356.1 = true then ((spec_l20Rd_pick.f k x1000 bt356.2 3).bind fun bt358 => (if bt358.1 = 0 then (some ((([] : List (S47))), bt358.2)) else (if bt358.1 = 1 then (if x13.length < 8796093022208 then (some ((x13 ++ [(⟨5, 0⟩ : S47)]), bt358.2)) else (none)) else ((spec_l20Rd_pick.f k x1000 bt358.2 2).bind fun bt366 => (if 0 < (x13.length : Int) then (some ((x13.set (0 : Int).toNat (⟨bt366.1, 6⟩ : S47)), bt366.2)) else (none)))))) else (some (x13, bt356.2)))
end
def spec_l20Term.f (k : Nat) (s0_0 : List Int) (s0_1 : Int) (a1 : Int) (a2 : Int) : Option ((List (S47)) × Int) := (spec_l20Rd_pick.f k s0_0 s0_1 4).bind fun bt233 => (spec_l20Term.l0 k (mn (mx a1 1) 4) a2 (([] : List (List (S47)))) (wrap64 (1 + bt233.1)) s0_0 bt233.2)
set_option maxHeartbeats 8000000 in
set_option maxRecDepth 100000 in
theorem spec_l20Term.calls (k : Nat) (g : Nat) (s0_0 : List Int) (s0_1 : Int) (a1 : Int) (a2 : Int) (r1 : List (S47)) (r2 : Int) (w0 w : World) (hI : IsS117 w0 w g s0_0 s0_1) (hB : Below w0.heap.size w0 w) (h : spec_l20Term.f k s0_0 s0_1 a1 a2 = some (r1, r2)) :
  Calls Try.prog 90 #[.pointer (some ⟨g, 0, none⟩), .int .i64 a1, .int .i64 a2] w fun e w' => ∃ v0_ : Value, e = .returned (v0_) ∧ Kd.R k47 47 w' w.heap.size (fun _ => True) v0_ r1 ∧ IsS117 w0 w' g s0_0 r2 ∧ Below w0.heap.size w0 w' ∧ KeepBut w w' g none := by
 have hu47 := Try.underlying47
 have HI0 := mk_ hI
 have HK := mk_ (KeepBut.refl w g none)
 have HL := mk_ hB.size
 clear hI
 have HW0 := mk_ hB.size
 have HB := mk_ hB
 clear hB
 unfold spec_l20Term.f at h
 have H := h
 clear h
 obtain ⟨ji4, hji4⟩ : ∃ j_ : Int, (mx a1 1) = j_ := ⟨_, rfl⟩
 first | rw [hji4] at H | simp only [hji4] at H
 (try (have hji4l : 1 ≤ ji4 := by (rw [← hji4]; unfold mx; (repeat' split) <;> omega)))
 (try (have hji4m : 0 ≤ ji4 := by omega))
 have hji4_ : (if a1 < 1 then 1 else a1) = ji4 := hji4
 obtain ⟨ji5, hji5⟩ : ∃ j_ : Int, (mn (ji4) 4) = j_ := ⟨_, rfl⟩
 first | rw [hji5] at H | simp only [hji5] at H
 have hji5_ : (if 4 < (ji4) then 4 else (ji4)) = ji5 := hji5
 have w5_ : wrap64 (ji5 + 2) = ji5 + 2 := Go.IntWalk.wrap64_in _ (by have h4_ := hji4_; have h5_ := hji5_; split at h4_ <;> split at h5_ <;> omega)
 obtain ⟨y230, hy230⟩ : ∃ y_ : List (List (S47)), y_ = (([] : List (List (S47)))) := ⟨_, rfl⟩
 replace H : ((spec_l20Rd_pick.f k s0_0 s0_1 4).bind fun bt233 => (spec_l20Term.l0 k ji5 a2 y230 (wrap64 (1 + bt233.1)) s0_0 bt233.2)) = some (r1, r2) := by first | (rw [hy230]; exact H) | exact H
 have Ny230 := mk_ hy230
 clear hy230
 replace H := Option.bind_eq_some_iff.mp H
 obtain ⟨⟨t233, t234⟩, A60, H⟩ := H
 try dsimp only at H
 have A6 := mk_ A60
 clear A60
 have H' := mk_ H
 clear H
 go_enter Try.func90, Try.ntmps90
 go_wp2_with (first | ((with_reducible refine gate_dst (N := 17) rfl ?_); refine Kd.N_lit (ownd 47 k47 w.heap.size) _ 36 ?hg (N' := 17) ?hd (xs := ([] : List (List (S47)))) (inner := []) (ok := (fun k_ => k_ ≠ g)) (okp := (fun k_ => k_ ≠ g)) ?hr ?hp (fun _ hk => hk) ((show ∀ k_, w.heap.size ≤ k_ → (fun k_ => k_ ≠ g) k_ from fun k_ hk => IsS117.fresh (IsS117.below HI0.out lt_) k_ hk) _ (Nat.le_refl _)) (Below.refl _ _) (Nat.le_refl _) (by simp) ?_; (case hd => rfl); (case hg => rfl); (case hr => first | (go_simp; done) | (go_simp; rfl)); (case hp => exact (Reps.none _ _)); intro v231 w7 ho8 hb hg_ hnew_; clear hg_ hnew_; (first | rw [← Ny230.out] at ho8 | (simp only [Int.reduceToNat] at ho8; rw [← Ny230.out] at ho8)); have HO232 := mk_ (Kd.N_lower ho8 (keep_size (w := w) (g := g) (row := none) (keep_at HK.out))); replace HI0 := mk_ (IsS117.below (IsS117.below HI0.out lt_) hb); replace HK := mk_ (KeepBut.trans (keep_at HK.out) (KeepBut.of_below hb g none) (.inl rfl)); replace HB := mk_ (below_step (below_at HB.out) hb); clear hb ho8) | ((with_reducible refine gate_callee (f := 60) rfl ?_); refine goesL_ (some 19) rfl rfl Try.func60 (by kernel_rfl) rfl #[.pointer (some ⟨g, 0, none⟩), .int .i64 4] rfl gl_ ?_; (with_reducible refine (spec_l20Rd_pick.calls k g s0_0 s0_1 4 t233 t234 w0 _ ?side1 ?side2 A6.out).mono ?_); (case side1 => exact IsS117.below HI0.out lt_); (case side2 => exact below_at HB.out); rintro e w9 ⟨rfl, hi, hb, hk⟩; refine ⟨_, rfl, ?_⟩; replace HO232 := mk_ (Kd.N_mono (Kd.N_keep (Kd.N_mono (ok := fun k_ => k_ ≠ g) (Kd.N_below HO232.out lt_) (fun k_ hk_ => (⟨hk_, hk_⟩ : _ ∧ k_ ≠ g))) hk (fun _ h => h.2)) (fun _ h => h.1)); replace HK := mk_ (KeepBut.trans (keep_at HK.out) hk (.inl rfl)); replace HB := mk_ (hb); replace HI0 := mk_ (hi); (try clear hb)))
 go_loopg [7, 8] k (fun kq v7 v8 w' => ∃ (x7_1 : List (List (S47))) (x8_1 : Int) (x1001_1 : Int), v8 = .int .i64 x8_1 ∧ Aside0 (spec_l20Term.l0 kq ji5 a2 x7_1 x8_1 s0_0 x1001_1 = some (r1, r2)) ∧ Aside0 (kq ≤ k) ∧ Aside0 (Kd.N (ownd 47 k47 w.heap.size) 36 w' w.heap.size (fun k_ => k_ ≠ g) v7 x7_1) ∧ Aside0 (IsS117 w0 w' g s0_0 x1001_1) ∧ Aside0 (KeepBut w w' g none) ∧ Aside0 (Below w0.heap.size w0 w'))
 case atStart => exact ⟨(y230), (wrap64 (1 + t233)), (t234), sm_, H', ⟨Nat.le_refl _⟩, ⟨Kd.N_below HO232.out lt_⟩, ⟨IsS117.below HI0.out lt_⟩, ⟨keep_at HK.out⟩, ⟨below_at HB.out⟩⟩
 clear H'
 try clear p2
 try clear c6
 try clear p6
 try clear c9
 obtain ⟨x7_1, x8_1, x1001_1, rfl, HA, HK1, HO_7, HI0, HK, HB⟩ := hrel
 cases gk with
 | zero => exact absurd HA.out (by simp [spec_l20Term.l0])
 | succ k1 =>
  have H := HA.out
  clear HA
  simp only [spec_l20Term.l0] at H
  by_cases c10 : x8_1 > 0
  ·rw [if_pos c10] at H
   have c10b0 : decide (0 < x8_1) = true := decide_eq_true c10
   clear c10
   replace H := Option.bind_eq_some_iff.mp H
   obtain ⟨⟨t235, t236⟩, A110, H⟩ := H
   try dsimp only at H
   have A11 := mk_ A110
   clear A110
   by_cases c12 : t235 = 0
   ·rw [if_pos c12] at H
    have c12b0 : (t235 == 0) = true := beq_iff_eq.mpr c12
    have c12b1 : (t235 != 0) = false := bne_eq_false_iff_eq.mpr c12
    clear c12
    replace H := Option.bind_eq_some_iff.mp H
    obtain ⟨⟨t237, t238⟩, A130, H⟩ := H
    try dsimp only at H
    have A13 := mk_ A130
    clear A130
    obtain ⟨y239, hy239⟩ : ∃ y_ : List (S47), y_ = (([(⟨1, t237⟩ : S47)] : List (S47))) := ⟨_, rfl⟩
    first | (replace H := bn_ hy239 H; try dsimp only at H) | rw [← hy239] at H
    have Ny239 := mk_ hy239
    clear hy239
    by_cases c14 : x7_1.length < 5864062014805
    rotate_left
    ·rw [if_neg c14] at H
     exact absurd H (by simp)
    rw [if_pos c14] at H
    have LMc14 := mk_ c14
    clear c14
    obtain ⟨y242, hy242⟩ : ∃ y_ : List (List (S47)), y_ = (x7_1 ++ [y239]) := ⟨_, rfl⟩
    first | (replace H := bn_ hy242 H; try dsimp only at H) | rw [← hy242] at H
    have Ny242 := mk_ hy242
    clear hy242
    have H' := mk_ H
    clear H
    go_wp2_with (first | ((with_reducible refine gate_callee (f := 60) rfl ?_); refine goesL_ (some 26) rfl rfl Try.func60 (by kernel_rfl) rfl #[.pointer (some ⟨g, 0, none⟩), .int .i64 4] rfl gl_ ?_; (with_reducible refine (spec_l20Rd_pick.calls k1 g s0_0 x1001_1 4 t235 t236 w0 _ ?side1 ?side2 A11.out).mono ?_); (case side1 => exact IsS117.below HI0.out lt_); (case side2 => exact below_at HB.out); rintro e w15 ⟨rfl, hi, hb, hk⟩; refine ⟨_, rfl, ?_⟩; replace HO_7 := mk_ (Kd.N_mono (Kd.N_keep (Kd.N_mono (ok := fun k_ => k_ ≠ g) (Kd.N_below HO_7.out lt_) (fun k_ hk_ => (⟨hk_, hk_⟩ : _ ∧ k_ ≠ g))) hk (fun _ h => h.2)) (fun _ h => h.1)); replace HK := mk_ (KeepBut.trans (keep_at HK.out) hk (.inl rfl)); replace HB := mk_ (hb); replace HI0 := mk_ (hi); (try clear hb)) | ((with_reducible refine gate_callee (f := 60) rfl ?_); refine goesL_ (some 32) rfl rfl Try.func60 (by kernel_rfl) rfl #[.pointer (some ⟨g, 0, none⟩), .int .i64 (ji5 + 2)] rfl (by (try simp only [List.map_toArray, List.map_cons, List.map_nil]); first | done | (simp only [hji5]; rfl) | rfl | (simp only [List.length_drop, List.length_take]; rfl)) ?_; (with_reducible refine (spec_l20Rd_pick.calls k1 g s0_0 t236 (ji5 + 2) t237 t238 w0 _ ?side1 ?side2 (by have h_ := A13.out; rw [w5_] at h_; exact h_)).mono ?_); (case side1 => exact IsS117.below HI0.out lt_); (case side2 => exact below_at HB.out); rintro e w16 ⟨rfl, hi, hb, hk⟩; refine ⟨_, rfl, ?_⟩; replace HO_7 := mk_ (Kd.N_mono (Kd.N_keep (Kd.N_mono (ok := fun k_ => k_ ≠ g) (Kd.N_below HO_7.out lt_) (fun k_ hk_ => (⟨hk_, hk_⟩ : _ ∧ k_ ≠ g))) hk (fun _ h => h.2)) (fun _ h => h.1)); replace HK := mk_ (KeepBut.trans (keep_at HK.out) hk (.inl rfl)); replace HB := mk_ (hb); replace HI0 := mk_ (hi); (try clear hb)) | ((with_reducible refine gate_dst (N := 34) rfl ?_); refine Kd.R_lit k47 _ 47 ?hg (N := 34) ?hd (xs := ([(⟨1, t237⟩ : S47)] : List (S47))) (inner := [.int .i64 1, .int .i64 t237]) (ok := fun _ => True) (okp := fun _ => True) ?hr ?hp (fun _ hk => hk) trivial (Below.refl _ _) (Nat.le_refl _) (by simp) ?_; (case hd => rfl); (case hg => rfl); (case hr => first | (go_simp; done) | (go_simp; rfl)); (case hp => exact (Reps.c2 (show Kd.M k47 _ _ _ (⟨1, t237⟩ : S47) [.int .i64 1, .int .i64 t237] from (k47_mkM _ _ _ (⟨1, t237⟩ : S47) )) (Reps.none _ _))); intro v240 w17 ho18 hb hg_ hnew_; clear hg_ hnew_; (first | rw [← Ny239.out] at ho18 | (simp only [Int.reduceToNat] at ho18; rw [← Ny239.out] at ho18)); replace HO_7 := mk_ (Kd.N_elder' (Kd.N_below HO_7.out lt_) (Kd.R_base ho18) hb); have HO241 := mk_ (Kd.R_lower ho18 (keep_size (w := w) (g := g) (row := none) (keep_at HK.out))); replace HI0 := mk_ (IsS117.below (IsS117.below HI0.out lt_) hb); replace HK := mk_ (KeepBut.trans (keep_at HK.out) (KeepBut.of_below hb g none) (.inl rfl)); replace HB := mk_ (below_step (below_at HB.out) hb); clear hb ho18; obtain ⟨Ao20, co20, eo20⟩ := Kd.R_slice HO241.out; subst eo20) | ((with_reducible refine gate_builtin (b := .append) (xs := #[.tmp 28, .tmp 35]) rfl ?_); at_builtin; refine Kd.N_append (ownd 47 k47 w.heap.size) w.heap.size rfl (.tmp 28) (.tmp 35) 129 36 (.slice none 0 0) 24 rfl Try.underlying129 info36p rfl Nat.one_pos (by omega) u7 x7_1 y239 [.slice Ao20 y239.length co20] (fun k_ => k_ ≠ g) (fun k_ => ((fun k_ => k_ ≠ g)) k_ ∧ some k_ ≠ (u7 : Value).ownBlock) rfl rfl ?aP (fun _ hk => hk) ?aF ?aO (Below.refl _ _) ?aS ?aL ?_; (case aP => exact (FK_own_mk (Kd.R_mono (ok' := (fun k_ => ((fun k_ => k_ ≠ g)) k_ ∧ some k_ ≠ (u7 : Value).ownBlock)) (IsS117.apart HI0.out (Kd.R_apart' (HO241.out) (Kd.N_typed HO_7.out) (by decide)) (by decide)) (fun k_ hk => ⟨hk.2, hk.1.2⟩)))); (case aF => exact (fun k_ hk => IsS117.fresh (IsS117.below HI0.out lt_) k_ hk)); (case aO => exact (Kd.N_below (Kd.N_mono HO_7.out (fun _ hk => hk.1)) lt_)); (case aS => exact (keep_size (w := w) (g := g) (row := none) (keep_at HK.out))); (case aL => have := LMc14.out; omega); intro v243 w19 ho hb hg hat; rw [← Ny242.out] at ho; replace HI0 := mk_ (IsS117.grown (IsS117.below HI0.out lt_) hg (IsS117.own_neN HI0.out HO_7.out (by decide))); replace HB := mk_ (below_weaken (below_at HB.out) HL.out hb); replace HK := mk_ (KeepBut.trans (keep_at HK.out) (KeepBut.of_grown hg g) (Kd.N_base2 HO_7.out)); have HO244 := mk_ (ho); (try clear HO_7 HO241); clear ho hb hg hat))
    go_roundg k1
    case measure => have := HK1.out; omega
    case rel => exact ⟨(y242), (wrap64 (x8_1 - 1)), (t238), sm_, H', ⟨by have := HK1.out; omega⟩, ⟨Kd.N_below HO244.out lt_⟩, ⟨IsS117.below HI0.out lt_⟩, ⟨keep_at HK.out⟩, ⟨below_at HB.out⟩⟩
   rw [if_neg c12] at H
   have c12b0 : (t235 == 0) = false := beq_eq_false_iff_ne.mpr c12
   have c12b1 : (t235 != 0) = true := bne_iff_ne.mpr c12
   replace H := Option.bind_eq_some_iff.mp H
   obtain ⟨⟨t245, t246⟩, A210, H⟩ := H
   try dsimp only at H
   have A21 := mk_ A210
   clear A210
   obtain ⟨y247, hy247⟩ : ∃ y_ : List (S47), y_ = (([(⟨0, t245⟩ : S47)] : List (S47))) := ⟨_, rfl⟩
   first | (replace H := bn_ hy247 H; try dsimp only at H) | rw [← hy247] at H
   have Ny247 := mk_ hy247
   clear hy247
   by_cases c22 : x7_1.length < 5864062014805
   rotate_left
   ·rw [if_neg c22] at H
    exact absurd H (by simp)
   rw [if_pos c22] at H
   have LMc22 := mk_ c22
   clear c22
   obtain ⟨y250, hy250⟩ : ∃ y_ : List (List (S47)), y_ = (x7_1 ++ [y247]) := ⟨_, rfl⟩
   first | (replace H := bn_ hy250 H; try dsimp only at H) | rw [← hy250] at H
   have Ny250 := mk_ hy250
   clear hy250
   have H' := mk_ H
   clear H
   go_wp2_with (first | ((with_reducible refine gate_callee (f := 60) rfl ?_); refine goesL_ (some 26) rfl rfl Try.func60 (by kernel_rfl) rfl #[.pointer (some ⟨g, 0, none⟩), .int .i64 4] rfl gl_ ?_; (with_reducible refine (spec_l20Rd_pick.calls k1 g s0_0 x1001_1 4 t235 t236 w0 _ ?side1 ?side2 A11.out).mono ?_); (case side1 => exact IsS117.below HI0.out lt_); (case side2 => exact below_at HB.out); rintro e w23 ⟨rfl, hi, hb, hk⟩; refine ⟨_, rfl, ?_⟩; replace HO_7 := mk_ (Kd.N_mono (Kd.N_keep (Kd.N_mono (ok := fun k_ => k_ ≠ g) (Kd.N_below HO_7.out lt_) (fun k_ hk_ => (⟨hk_, hk_⟩ : _ ∧ k_ ≠ g))) hk (fun _ h => h.2)) (fun _ h => h.1)); replace HK := mk_ (KeepBut.trans (keep_at HK.out) hk (.inl rfl)); replace HB := mk_ (hb); replace HI0 := mk_ (hi); (try clear hb)) | ((with_reducible refine gate_callee (f := 60) rfl ?_); refine goesL_ (some 40) rfl rfl Try.func60 (by kernel_rfl) rfl #[.pointer (some ⟨g, 0, none⟩), .int .i64 ji5] rfl (by (try simp only [List.map_toArray, List.map_cons, List.map_nil]); first | done | (simp only [hji5]; rfl) | rfl | (simp only [List.length_drop, List.length_take]; rfl)) ?_; (with_reducible refine (spec_l20Rd_pick.calls k1 g s0_0 t236 ji5 t245 t246 w0 _ ?side1 ?side2 A21.out).mono ?_); (case side1 => exact IsS117.below HI0.out lt_); (case side2 => exact below_at HB.out); rintro e w24 ⟨rfl, hi, hb, hk⟩; refine ⟨_, rfl, ?_⟩; replace HO_7 := mk_ (Kd.N_mono (Kd.N_keep (Kd.N_mono (ok := fun k_ => k_ ≠ g) (Kd.N_below HO_7.out lt_) (fun k_ hk_ => (⟨hk_, hk_⟩ : _ ∧ k_ ≠ g))) hk (fun _ h => h.2)) (fun _ h => h.1)); replace HK := mk_ (KeepBut.trans (keep_at HK.out) hk (.inl rfl)); replace HB := mk_ (hb); replace HI0 := mk_ (hi); (try clear hb)) | ((with_reducible refine gate_dst (N := 42) rfl ?_); refine Kd.R_lit k47 _ 47 ?hg (N := 42) ?hd (xs := ([(⟨0, t245⟩ : S47)] : List (S47))) (inner := [.int .i64 0, .int .i64 t245]) (ok := fun _ => True) (okp := fun _ => True) ?hr ?hp (fun _ hk => hk) trivial (Below.refl _ _) (Nat.le_refl _) (by simp) ?_; (case hd => rfl); (case hg => rfl); (case hr => first | (go_simp; done) | (go_simp; rfl)); (case hp => exact (Reps.c2 (show Kd.M k47 _ _ _ (⟨0, t245⟩ : S47) [.int .i64 0, .int .i64 t245] from (k47_mkM _ _ _ (⟨0, t245⟩ : S47) )) (Reps.none _ _))); intro v248 w25 ho26 hb hg_ hnew_; clear hg_ hnew_; (first | rw [← Ny247.out] at ho26 | (simp only [Int.reduceToNat] at ho26; rw [← Ny247.out] at ho26)); replace HO_7 := mk_ (Kd.N_elder' (Kd.N_below HO_7.out lt_) (Kd.R_base ho26) hb); have HO249 := mk_ (Kd.R_lower ho26 (keep_size (w := w) (g := g) (row := none) (keep_at HK.out))); replace HI0 := mk_ (IsS117.below (IsS117.below HI0.out lt_) hb); replace HK := mk_ (KeepBut.trans (keep_at HK.out) (KeepBut.of_below hb g none) (.inl rfl)); replace HB := mk_ (below_step (below_at HB.out) hb); clear hb ho26; obtain ⟨Ao28, co28, eo28⟩ := Kd.R_slice HO249.out; subst eo28) | ((with_reducible refine gate_builtin (b := .append) (xs := #[.tmp 37, .tmp 43]) rfl ?_); at_builtin; refine Kd.N_append (ownd 47 k47 w.heap.size) w.heap.size rfl (.tmp 37) (.tmp 43) 129 36 (.slice none 0 0) 24 rfl Try.underlying129 info36p rfl Nat.one_pos (by omega) u7 x7_1 y247 [.slice Ao28 y247.length co28] (fun k_ => k_ ≠ g) (fun k_ => ((fun k_ => k_ ≠ g)) k_ ∧ some k_ ≠ (u7 : Value).ownBlock) rfl rfl ?aP (fun _ hk => hk) ?aF ?aO (Below.refl _ _) ?aS ?aL ?_; (case aP => exact (FK_own_mk (Kd.R_mono (ok' := (fun k_ => ((fun k_ => k_ ≠ g)) k_ ∧ some k_ ≠ (u7 : Value).ownBlock)) (IsS117.apart HI0.out (Kd.R_apart' (HO249.out) (Kd.N_typed HO_7.out) (by decide)) (by decide)) (fun k_ hk => ⟨hk.2, hk.1.2⟩)))); (case aF => exact (fun k_ hk => IsS117.fresh (IsS117.below HI0.out lt_) k_ hk)); (case aO => exact (Kd.N_below (Kd.N_mono HO_7.out (fun _ hk => hk.1)) lt_)); (case aS => exact (keep_size (w := w) (g := g) (row := none) (keep_at HK.out))); (case aL => have := LMc22.out; omega); intro v251 w27 ho hb hg hat; rw [← Ny250.out] at ho; replace HI0 := mk_ (IsS117.grown (IsS117.below HI0.out lt_) hg (IsS117.own_neN HI0.out HO_7.out (by decide))); replace HB := mk_ (below_weaken (below_at HB.out) HL.out hb); replace HK := mk_ (KeepBut.trans (keep_at HK.out) (KeepBut.of_grown hg g) (Kd.N_base2 HO_7.out)); have HO252 := mk_ (ho); (try clear HO_7 HO249); clear ho hb hg hat))
   go_roundg k1
   case measure => have := HK1.out; omega
   case rel => exact ⟨(y250), (wrap64 (x8_1 - 1)), (t246), sm_, H', ⟨by have := HK1.out; omega⟩, ⟨Kd.N_below HO252.out lt_⟩, ⟨IsS117.below HI0.out lt_⟩, ⟨keep_at HK.out⟩, ⟨below_at HB.out⟩⟩
  rw [if_neg c10] at H
  have c10b0 : decide (0 < x8_1) = false := decide_eq_false c10
  clear c10
  have H' := mk_ H
  clear H
  go_wp2
  go_loopg [7, 9] k1 (fun kq v7 v9 w' => ∃ (x7_2 : List (List (S47))) (x9_2 : Int) (x1001_2 : Int), v9 = .int .i64 x9_2 ∧ Aside0 (spec_l20Term.l1 kq a2 x7_2 x9_2 s0_0 x1001_2 = some (r1, r2)) ∧ Aside0 (kq ≤ k1) ∧ Aside0 (Kd.N (ownd 47 k47 w.heap.size) 36 w' w.heap.size (fun k_ => k_ ≠ g) v7 x7_2) ∧ Aside0 (IsS117 w0 w' g s0_0 x1001_2) ∧ Aside0 (KeepBut w w' g none) ∧ Aside0 (Below w0.heap.size w0 w'))
  case atStart => exact ⟨(x7_1), (3), (x1001_1), sm_, H', ⟨Nat.le_refl _⟩, ⟨Kd.N_below HO_7.out lt_⟩, ⟨IsS117.below HI0.out lt_⟩, ⟨keep_at HK.out⟩, ⟨below_at HB.out⟩⟩
  clear H'
  try clear c1
  try clear c2
  try clear p2
  try clear c6
  try clear p6
  try clear c9
  try clear c10
  try clear c10b0
  try clear c12
  try clear c12b0
  try clear c12b1
  try clear c14
  try clear c22
  try clear p2
  try clear p6
  obtain ⟨x7_2, x9_2, x1001_2, rfl, HA, HK2, HO_7, HI0, HK, HB⟩ := hrel
  cases gk with
  | zero => exact absurd HA.out (by simp [spec_l20Term.l1])
  | succ k2 =>
   have H := HA.out
   clear HA
   simp only [spec_l20Term.l1] at H
   by_cases c29 : (x7_2.length : Int) > 1
   rotate_left
   ·rw [if_neg c29] at H
    have c29b0 : decide (1 < (x7_2.length : Int)) = false := decide_eq_false c29
    have c29b1 : decide (1 < x7_2.length) = false := decide_eq_false (by omega)
    clear c29
    by_cases c115 : 0 < (x7_2.length : Int)
    rotate_left
    ·rw [if_neg c115] at H
     exact absurd H (by simp)
    rw [if_pos c115] at H
    have c115b0 : decide (0 < (x7_2.length : Int)) = true := decide_eq_true c115
    have c115b1 : decide (0 < x7_2.length) = true := decide_eq_true (by omega)
    clear c115
    obtain ⟨y345, hy345⟩ : ∃ y_ : List (S47), y_ = (([] : List (S47))) := ⟨_, rfl⟩
    replace H : (if y345.length + (rd_Lparts x7_2 0).length < 8796093022208 then ((some (y345 ++ (rd_Lparts x7_2 0) : List (S47))).bind fun y348 => ((spec_l20Rd_pick.f k2 s0_0 x1001_2 5).bind fun bt351 => (if bt351.1 = 0 then (if y348.length < 8796093022208 then (spec_l20Term.j2 k2 a2 (y348 ++ [(⟨2, 0⟩ : S47)]) s0_0 bt351.2) else (none)) else (spec_l20Term.j2 k2 a2 y348 s0_0 bt351.2)))) else (none)) = some (r1, r2) := by first | (rw [hy345]; exact H) | exact H
    have Ny345 := mk_ hy345
    clear hy345
    by_cases c116 : y345.length + (rd_Lparts x7_2 0).length < 8796093022208
    rotate_left
    ·rw [if_neg c116] at H
     exact absurd H (by simp)
    rw [if_pos c116] at H
    have LMc116 := mk_ c116
    clear c116
    obtain ⟨y348, hy348⟩ : ∃ y_ : List (S47), y_ = (y345 ++ (rd_Lparts x7_2 0)) := ⟨_, rfl⟩
    first | (replace H := bn_ hy348 H; try dsimp only at H) | rw [← hy348] at H
    have Ny348 := mk_ hy348
    clear hy348
    replace H := Option.bind_eq_some_iff.mp H
    obtain ⟨⟨t351, t352⟩, A1170, H⟩ := H
    try dsimp only at H
    have A117 := mk_ A1170
    clear A1170
    have HC118 := mk_ H
    clear H
    obtain ⟨Ao119, co119, eo119⟩ := Kd.N_slice HO_7.out
    subst eo119
    have p344 : 0 ≤ (0 : Int) := (by omega)
    have q344 : 0 < (x7_2.length : Int) := oa_
    obtain ⟨ad344, A344_0, c344_0, e344, hx344_0, hl344_0, hi344_0⟩ := at_Lparts (own_C (Kd.N_reads' HO_7.out).2.2) 0 p344 q344
    cases e344
    obtain ⟨ce344, hce344, hMe344, hcc344⟩ := Kd.N_get HO_7.out [] 0 p344 (by first | exact q344 | exact oa_ | (have e_ := (Kd.N_reads' HO_7.out).1; omega))
    obtain ⟨ua344_0, uc344_0, rfl, ul344_0, ge344_0⟩ := FK_own_open hMe344
    have hv344_0 := hcc344 0 _ rfl
    rw [Nat.add_zero, show ((ownd 47 k47 w.heap.size)).sz = 1 from rfl, Nat.mul_one] at hv344_0
    replace hv344_0 := Option.some.inj (hv344_0.symm.trans hx344_0)
    injection hv344_0 with hva_ hvn_ hvc_
    rw [hva_] at ge344_0
    rw [hvc_] at ul344_0
    obtain ⟨vo_, ev_, hR_⟩ := Kd.FK_now hMe344
    injection ev_ with ev_
    subst ev_
    rw [hva_, hvc_] at hR_
    obtain ⟨v349, hv_⟩ : ∃ v_, v_ = (Value.slice A344_0 (rd_Lparts x7_2 0).length c344_0) := ⟨_, rfl⟩
    replace hR_ : Kd.R k47 47 _ w.heap.size (fun _ => True) (Value.slice A344_0 (rd_Lparts x7_2 0).length c344_0) (rd_Lparts x7_2 0) := hR_
    rw [← hv_] at hR_
    rw [← hv_] at hx344_0
    have HO350 := mk_ (show Kd.R k47 47 _ w.heap.size (fun _ => True) v349 y348 from by rw [Ny348.out, Ny345.out, List.nil_append]; exact hR_)
    clear hva_ hvn_ hvc_ ge344_0 ul344_0
    clear hcc344 hce344
    have qi344 : (0 < x7_2.length) = True := eq_true (by omega)
    (try rw [show ((0 : Int)).toNat = 0 from rfl] at hx344_0)
    (try rw [Addr.add_zero'] at hx344_0)
    clear hi344_0 hl344_0
    replace p344 := eq_true p344
    replace q344 := eq_true q344
    clear hR_ hv_
    clear HO_7
    go_upto_if 112 with (first | ((with_reducible refine gate_callee (f := 60) rfl ?_); refine goesL_ (some 111) rfl rfl Try.func60 (by kernel_rfl) rfl #[.pointer (some ⟨g, 0, none⟩), .int .i64 5] rfl gl_ ?_; (with_reducible refine (spec_l20Rd_pick.calls k2 g s0_0 x1001_2 5 t351 t352 w0 _ ?side1 ?side2 A117.out).mono ?_); (case side1 => exact IsS117.below HI0.out lt_); (case side2 => exact below_at HB.out); rintro e w123 ⟨rfl, hi, hb, hk⟩; refine ⟨_, rfl, ?_⟩; replace HO350 := mk_ (Kd.R_mono (Kd.R_keep (IsS117.apart (show IsS117 w0 _ g s0_0 x1001_2 from IsS117.below HI0.out lt_) (Kd.R_below HO350.out lt_) (by decide)) hk (fun _ h => h.2)) (fun _ h => h.1)); replace HK := mk_ (KeepBut.trans (keep_at HK.out) hk (.inl rfl)); replace HB := mk_ (hb); replace HI0 := mk_ (hi); (try clear hb)))
    (try simp only [Act.put, z0_, z1_, z2_])
    go_cut [13] (fun v13 wc => ∃ (kq : Nat) (x13_117 : List (S47)), Aside0 (spec_l20Term.j2 kq a2 x13_117 s0_0 t352 = some (r1, r2)) ∧ Aside0 (kq ≤ k2) ∧ Aside0 (Kd.R k47 47 wc w.heap.size (fun _ => True) v13 x13_117) ∧ Aside0 (IsS117 w0 wc g s0_0 t352) ∧ Aside0 (KeepBut w wc g none) ∧ Aside0 (Below w0.heap.size w0 wc))
    case first =>
     have H := HC118.out
     clear HC118
     by_cases c124 : t351 = 0
     rotate_left
     ·rw [if_neg c124] at H
      have c124b0 : (t351 == 0) = false := beq_eq_false_iff_ne.mpr c124
      have c124b1 : (t351 != 0) = true := bne_iff_ne.mpr c124
      (first | rw [c124b0] | (simp only [i64_w, i32_w]; rw [c124b0]) | skip)
      have H' := mk_ H
      clear H
      go_wp2
      go_meet
      case rel => exact ⟨_, (y348), H', ⟨by have := HK1.out; have := HK2.out; first | omega | exact Nat.le_refl _⟩, ⟨Kd.R_below HO350.out lt_⟩, ⟨IsS117.below HI0.out lt_⟩, ⟨keep_at HK.out⟩, ⟨below_at HB.out⟩⟩
     rw [if_pos c124] at H
     have c124b0 : (t351 == 0) = true := beq_iff_eq.mpr c124
     have c124b1 : (t351 != 0) = false := bne_eq_false_iff_eq.mpr c124
     clear c124
     (first | rw [c124b0] | (simp only [i64_w, i32_w]; rw [c124b0]) | skip)
     by_cases c125 : y348.length < 8796093022208
     rotate_left
     ·rw [if_neg c125] at H
      exact absurd H (by simp)
     rw [if_pos c125] at H
     have LMc125 := mk_ c125
     clear c125
     obtain ⟨y353, hy353⟩ : ∃ y_ : List (S47), y_ = (y348 ++ [(⟨2, 0⟩ : S47)]) := ⟨_, rfl⟩
     first | (replace H := bn_ hy353 H; try dsimp only at H) | rw [← hy353] at H
     have Ny353 := mk_ hy353
     clear hy353
     have H' := mk_ H
     clear H
     go_wp2_with (first | ((with_reducible refine gate_builtin (b := .append) (xs := #[.tmp 113, .tmp 115]) rfl ?_); at_builtin; refine Kd.R_append k47 w.heap.size rfl (.tmp 113) (.tmp 115) 36 47 (.agg #[(.int .i64 0), (.int .i64 0)]) 16 rfl Try.underlying36 info47p rfl (by decide) (by omega) v349 y348 (⟨2, 0⟩ : S47) [.int .i64 2, .int .i64 0] (fun _ => True) (fun _ => False) rfl rfl ?aP (fun _ hk => hk.elim) ?aF ?aO (Below.refl _ _) ?aS ?aL ?_; (case aP => exact k47_mkM _ _ _ (⟨2, 0⟩ : S47)); (case aF => exact (fun _ _ => trivial)); (case aO => exact (Kd.R_below HO350.out lt_)); (case aS => exact (keep_size (w := w) (g := g) (row := none) (keep_at HK.out))); (case aL => have := LMc125.out; omega); intro v354 w126 ho hb hg hat; rw [← Ny353.out] at ho; replace HI0 := mk_ (IsS117.grown (IsS117.below HI0.out lt_) hg (IsS117.own_ne HI0.out HO350.out (by decide))); replace HB := mk_ (below_weaken (below_at HB.out) HL.out hb); replace HK := mk_ (KeepBut.trans (keep_at HK.out) (KeepBut.of_grown hg g) (Kd.R_base2 HO350.out)); have HO355 := mk_ (ho); (try clear HO350); clear ho hb hg hat))
     go_meet
     case rel => exact ⟨_, (y353), H', ⟨by have := HK1.out; have := HK2.out; first | omega | exact Nat.le_refl _⟩, ⟨Kd.R_below HO355.out lt_⟩, ⟨IsS117.below HI0.out lt_⟩, ⟨keep_at HK.out⟩, ⟨below_at HB.out⟩⟩
    clear HC118
    try clear c1
    try clear q1
    try clear c2
    try clear p2
    try clear q2
    try clear hx2
    try clear c3
    try clear p3
    try clear q3
    try clear hx3
    try clear qi3
    try clear hf3
    try clear c4
    try clear hx4
    try clear hf4
    try clear c5
    try clear c6
    try clear p6
    try clear q7
    try clear c8
    try clear q8
    try clear c9
    try clear c10
    try clear c10b0
    try clear q10
    try clear c11
    try clear q11
    try clear c12
    try clear c12b0
    try clear c12b1
    try clear c14
    try clear c22
    try clear c26
    try clear p26
    try clear q26
    try clear hx26
    try clear c27
    try clear p27
    try clear q27
    try clear hx27
    try clear c29
    try clear c29b0
    try clear c29b1
    try clear c30
    try clear p30
    try clear q30
    try clear hx30
    try clear c31
    try clear c31b0
    try clear p31
    try clear q31
    try clear hx31
    try clear c33
    try clear c33b0
    try clear c33b1
    try clear c34
    try clear c34b0
    try clear p34
    try clear q34
    try clear hx34
    try clear qi34
    try clear c35
    try clear c35b0
    try clear c36
    try clear c37
    try clear c38
    try clear p38
    try clear q38
    try clear hx38
    try clear hf38
    try clear c46
    try clear hx46
    try clear hf46
    try clear c48
    try clear c48b0
    try clear c49
    try clear c49b0
    try clear c50
    try clear c52
    try clear c52b0
    try clear c53
    try clear c53b0
    try clear c54
    try clear c56
    try clear c57
    try clear c57b0
    try clear c58
    try clear c58b0
    try clear c58b1
    try clear c59
    try clear c60
    try clear c62
    try clear c62b0
    try clear c62b1
    try clear c63
    try clear c63b0
    try clear c63b1
    try clear c64
    try clear p64
    try clear q76
    try clear c80
    try clear q80
    try clear c82
    try clear c82b0
    try clear c83
    try clear c83b0
    try clear c84
    try clear c86
    try clear c86b0
    try clear c87
    try clear c87b0
    try clear c88
    try clear c90
    try clear c91
    try clear c91b0
    try clear c92
    try clear c92b0
    try clear c92b1
    try clear c93
    try clear c94
    try clear c96
    try clear c96b0
    try clear c96b1
    try clear c97
    try clear c97b0
    try clear c97b1
    try clear c98
    try clear q109
    try clear c113
    try clear q113
    try clear c115
    try clear c115b0
    try clear c115b1
    try clear c116
    try clear c124
    try clear c124b0
    try clear c124b1
    try clear c125
    try clear hx260_0
    try clear hx271_0
    try clear hx275_0
    try clear hx309_0
    try clear hx313_0
    try clear hx344_0
    try clear hx38_0
    try clear hx46_0
    try clear p2
    try clear p260
    try clear p271
    try clear p275
    try clear p309
    try clear p313
    try clear p344
    try clear p38
    try clear p6
    try clear q0113
    try clear q080
    try clear q109
    try clear q113
    try clear q260
    try clear q271
    try clear q275
    try clear q309
    try clear q313
    try clear q344
    try clear q38
    try clear q76
    try clear q80
    obtain ⟨kq, x13_117, HA, HJ117, HO_13, HI0, HK, HB⟩ := hcut
    cases kq with
    | zero => exact absurd HA.out (by simp [spec_l20Term.j2])
    | succ kj117 =>
     have H := HA.out
     clear HA
     simp only [spec_l20Term.j2] at H
     replace H := Option.bind_eq_some_iff.mp H
     obtain ⟨⟨t356, t357⟩, A1270, H⟩ := H
     try dsimp only at H
     have A127 := mk_ A1270
     clear A1270
     by_cases c128 : t356 = true
     rotate_left
     ·replace c128 := Bool.eq_false_iff.mpr c128
      subst c128
      have H1 : (some (x13_117, t357)) = some (r1, r2) := by rw [if_neg Bool.false_ne_true] at H; exact H
      clear H
      have H := H1
      clear H1
      simp only [Option.some.injEq, Prod.mk.injEq] at H
      obtain ⟨rfl, rfl⟩ := H
      go_wp2_with (first | ((with_reducible refine gate_callee (f := 88) rfl ?_); refine goesL_ (some 119) rfl rfl Try.func88 (by kernel_rfl) rfl #[.pointer (some ⟨g, 0, none⟩), .int .i64 a2] rfl gl_ ?_; (with_reducible refine (spec_l20Rd_odd.calls kj117 g s0_0 t352 a2 false t357 w0 _ ?side1 ?side2 A127.out).mono ?_); (case side1 => exact IsS117.below HI0.out lt_); (case side2 => exact below_at HB.out); rintro e w148 ⟨rfl, hi, hb, hk⟩; refine ⟨_, rfl, ?_⟩; replace HO_13 := mk_ (Kd.R_mono (Kd.R_keep (IsS117.apart (show IsS117 w0 _ g s0_0 t352 from IsS117.below HI0.out lt_) (Kd.R_below HO_13.out lt_) (by decide)) hk (fun _ h => h.2)) (fun _ h => h.1)); replace HK := mk_ (KeepBut.trans (keep_at HK.out) hk (.inl rfl)); replace HB := mk_ (hb); replace HI0 := mk_ (hi); (try clear hb)))
      go_ret
      exact ⟨_, by first | rfl | (simp [errW_none, errW_some] <;> rfl) | (simp only [← hji4, ← hji5]; first | rfl | (simp [errW_none, errW_some] <;> rfl)) | (simp [*, errW_none, errW_some] <;> rfl), rl_ HO_13.out, IsS117.below HI0.out lt_, below_at HB.out, keep_at HK.out⟩
     subst c128
     have H1 : ((spec_l20Rd_pick.f kj117 s0_0 t357 3).bind fun bt358 => (if bt358.1 = 0 then (some ((([] : List (S47))), bt358.2)) else (if bt358.1 = 1 then (if x13_117.length < 8796093022208 then (some ((x13_117 ++ [(⟨5, 0⟩ : S47)]), bt358.2)) else (none)) else ((spec_l20Rd_pick.f kj117 s0_0 bt358.2 2).bind fun bt366 => (if 0 < (x13_117.length : Int) then (some ((x13_117.set (0 : Int).toNat (⟨bt366.1, 6⟩ : S47)), bt366.2)) else (none)))))) = some (r1, r2) := by rw [if_pos rfl] at H; exact H
     clear H
     have H := H1
     clear H1
     replace H := Option.bind_eq_some_iff.mp H
     obtain ⟨⟨t358, t359⟩, A1290, H⟩ := H
     try dsimp only at H
     have A129 := mk_ A1290
     clear A1290
     by_cases c130 : t358 = 0
     ·rw [if_pos c130] at H
      have c130b0 : (t358 == 0) = true := beq_iff_eq.mpr c130
      have c130b1 : (t358 != 0) = false := bne_eq_false_iff_eq.mpr c130
      clear c130
      obtain ⟨y360, hy360⟩ : ∃ y_ : List (S47), y_ = (([] : List (S47))) := ⟨_, rfl⟩
      replace H : (some (y360, t359)) = some (r1, r2) := by first | (rw [hy360]; exact H) | exact H
      have Ny360 := mk_ hy360
      clear hy360
      simp only [Option.some.injEq, Prod.mk.injEq] at H
      obtain ⟨rfl, rfl⟩ := H
      go_wp2_with (first | ((with_reducible refine gate_callee (f := 88) rfl ?_); refine goesL_ (some 119) rfl rfl Try.func88 (by kernel_rfl) rfl #[.pointer (some ⟨g, 0, none⟩), .int .i64 a2] rfl gl_ ?_; (with_reducible refine (spec_l20Rd_odd.calls kj117 g s0_0 t352 a2 true t357 w0 _ ?side1 ?side2 A127.out).mono ?_); (case side1 => exact IsS117.below HI0.out lt_); (case side2 => exact below_at HB.out); rintro e w131 ⟨rfl, hi, hb, hk⟩; refine ⟨_, rfl, ?_⟩; replace HO_13 := mk_ (Kd.R_mono (Kd.R_keep (IsS117.apart (show IsS117 w0 _ g s0_0 t352 from IsS117.below HI0.out lt_) (Kd.R_below HO_13.out lt_) (by decide)) hk (fun _ h => h.2)) (fun _ h => h.1)); replace HK := mk_ (KeepBut.trans (keep_at HK.out) hk (.inl rfl)); replace HB := mk_ (hb); replace HI0 := mk_ (hi); (try clear hb)) | ((with_reducible refine gate_callee (f := 60) rfl ?_); refine goesL_ (some 121) rfl rfl Try.func60 (by kernel_rfl) rfl #[.pointer (some ⟨g, 0, none⟩), .int .i64 3] rfl gl_ ?_; (with_reducible refine (spec_l20Rd_pick.calls kj117 g s0_0 t357 3 t358 t359 w0 _ ?side1 ?side2 A129.out).mono ?_); (case side1 => exact IsS117.below HI0.out lt_); (case side2 => exact below_at HB.out); rintro e w132 ⟨rfl, hi, hb, hk⟩; refine ⟨_, rfl, ?_⟩; replace HO_13 := mk_ (Kd.R_mono (Kd.R_keep (IsS117.apart (show IsS117 w0 _ g s0_0 t357 from IsS117.below HI0.out lt_) (Kd.R_below HO_13.out lt_) (by decide)) hk (fun _ h => h.2)) (fun _ h => h.1)); replace HK := mk_ (KeepBut.trans (keep_at HK.out) hk (.inl rfl)); replace HB := mk_ (hb); replace HI0 := mk_ (hi); (try clear hb)) | ((with_reducible refine gate_dst (N := 129) rfl ?_); refine Kd.R_lit k47 _ 47 ?hg (N := 129) ?hd (xs := ([] : List (S47))) (inner := []) (ok := fun _ => True) (okp := fun _ => True) ?hr ?hp (fun _ hk => hk) trivial (Below.refl _ _) (Nat.le_refl _) (by simp) ?_; (case hd => rfl); (case hg => rfl); (case hr => first | (go_simp; done) | (go_simp; rfl)); (case hp => exact (Reps.none _ _)); intro v361 w133 ho134 hb hg_ hnew_; clear hg_ hnew_; (first | rw [← Ny360.out] at ho134 | (simp only [Int.reduceToNat] at ho134; rw [← Ny360.out] at ho134)); have HO362 := mk_ (Kd.R_lower (Kd.R_new' ho134 (Kd.R_lt (Kd.R_below HO_13.out lt_))) (keep_size (w := w) (g := g) (row := none) (keep_at HK.out))); replace HI0 := mk_ (IsS117.below (IsS117.below HI0.out lt_) hb); replace HK := mk_ (KeepBut.trans (keep_at HK.out) (KeepBut.of_below hb g none) (.inl rfl)); replace HB := mk_ (below_step (below_at HB.out) hb); (try clear HO_13); clear hb ho134))
      go_ret
      exact ⟨_, by first | rfl | (simp [errW_none, errW_some] <;> rfl) | (simp only [← hji4, ← hji5]; first | rfl | (simp [errW_none, errW_some] <;> rfl)) | (simp [*, errW_none, errW_some] <;> rfl), by (with_reducible repeat (first | apply Kd.R_alloc | apply Kd.R_drewN | apply Kd.R_drew)); exact Kd.R_mono HO362.out (fun _ hk => trivial), IsS117.below HI0.out lt_, below_at HB.out, keep_at HK.out⟩
     rw [if_neg c130] at H
     have c130b0 : (t358 == 0) = false := beq_eq_false_iff_ne.mpr c130
     have c130b1 : (t358 != 0) = true := bne_iff_ne.mpr c130
     by_cases c135 : t358 = 1
     ·rw [if_pos c135] at H
      have c135b0 : (t358 == 1) = true := beq_iff_eq.mpr c135
      have c135b1 : (t358 != 1) = false := bne_eq_false_iff_eq.mpr c135
      clear c135
      by_cases c136 : x13_117.length < 8796093022208
      rotate_left
      ·rw [if_neg c136] at H
       exact absurd H (by simp)
      rw [if_pos c136] at H
      have LMc136 := mk_ c136
      clear c136
      obtain ⟨y363, hy363⟩ : ∃ y_ : List (S47), y_ = (x13_117 ++ [(⟨5, 0⟩ : S47)]) := ⟨_, rfl⟩
      first | (replace H := bn_ hy363 H; try dsimp only at H) | rw [← hy363] at H
      have Ny363 := mk_ hy363
      clear hy363
      simp only [Option.some.injEq, Prod.mk.injEq] at H
      obtain ⟨rfl, rfl⟩ := H
      go_wp2_with (first | ((with_reducible refine gate_callee (f := 88) rfl ?_); refine goesL_ (some 119) rfl rfl Try.func88 (by kernel_rfl) rfl #[.pointer (some ⟨g, 0, none⟩), .int .i64 a2] rfl gl_ ?_; (with_reducible refine (spec_l20Rd_odd.calls kj117 g s0_0 t352 a2 true t357 w0 _ ?side1 ?side2 A127.out).mono ?_); (case side1 => exact IsS117.below HI0.out lt_); (case side2 => exact below_at HB.out); rintro e w137 ⟨rfl, hi, hb, hk⟩; refine ⟨_, rfl, ?_⟩; replace HO_13 := mk_ (Kd.R_mono (Kd.R_keep (IsS117.apart (show IsS117 w0 _ g s0_0 t352 from IsS117.below HI0.out lt_) (Kd.R_below HO_13.out lt_) (by decide)) hk (fun _ h => h.2)) (fun _ h => h.1)); replace HK := mk_ (KeepBut.trans (keep_at HK.out) hk (.inl rfl)); replace HB := mk_ (hb); replace HI0 := mk_ (hi); (try clear hb)) | ((with_reducible refine gate_callee (f := 60) rfl ?_); refine goesL_ (some 121) rfl rfl Try.func60 (by kernel_rfl) rfl #[.pointer (some ⟨g, 0, none⟩), .int .i64 3] rfl gl_ ?_; (with_reducible refine (spec_l20Rd_pick.calls kj117 g s0_0 t357 3 t358 t359 w0 _ ?side1 ?side2 A129.out).mono ?_); (case side1 => exact IsS117.below HI0.out lt_); (case side2 => exact below_at HB.out); rintro e w138 ⟨rfl, hi, hb, hk⟩; refine ⟨_, rfl, ?_⟩; replace HO_13 := mk_ (Kd.R_mono (Kd.R_keep (IsS117.apart (show IsS117 w0 _ g s0_0 t357 from IsS117.below HI0.out lt_) (Kd.R_below HO_13.out lt_) (by decide)) hk (fun _ h => h.2)) (fun _ h => h.1)); replace HK := mk_ (KeepBut.trans (keep_at HK.out) hk (.inl rfl)); replace HB := mk_ (hb); replace HI0 := mk_ (hi); (try clear hb)) | ((with_reducible refine gate_builtin (b := .append) (xs := #[.tmp 132, .tmp 134]) rfl ?_); at_builtin; refine Kd.R_append k47 w.heap.size rfl (.tmp 132) (.tmp 134) 36 47 (.agg #[(.int .i64 0), (.int .i64 0)]) 16 rfl Try.underlying36 info47p rfl (by decide) (by omega) u13 x13_117 (⟨5, 0⟩ : S47) [.int .i64 5, .int .i64 0] (fun _ => True) (fun _ => False) rfl rfl ?aP (fun _ hk => hk.elim) ?aF ?aO (Below.refl _ _) ?aS ?aL ?_; (case aP => exact k47_mkM _ _ _ (⟨5, 0⟩ : S47)); (case aF => exact (fun _ _ => trivial)); (case aO => exact (Kd.R_below HO_13.out lt_)); (case aS => exact (keep_size (w := w) (g := g) (row := none) (keep_at HK.out))); (case aL => have := LMc136.out; omega); intro v364 w139 ho hb hg hat; rw [← Ny363.out] at ho; replace HI0 := mk_ (IsS117.grown (IsS117.below HI0.out lt_) hg (IsS117.own_ne HI0.out HO_13.out (by decide))); replace HB := mk_ (below_weaken (below_at HB.out) HL.out hb); replace HK := mk_ (KeepBut.trans (keep_at HK.out) (KeepBut.of_grown hg g) (Kd.R_base2 HO_13.out)); have HO365 := mk_ (ho); (try clear HO_13); clear ho hb hg hat))
      go_ret
      exact ⟨_, by first | rfl | (simp [errW_none, errW_some] <;> rfl) | (simp only [← hji4, ← hji5]; first | rfl | (simp [errW_none, errW_some] <;> rfl)) | (simp [*, errW_none, errW_some] <;> rfl), rl_ HO365.out, IsS117.below HI0.out lt_, below_at HB.out, keep_at HK.out⟩
     rw [if_neg c135] at H
     have c135b0 : (t358 == 1) = false := beq_eq_false_iff_ne.mpr c135
     have c135b1 : (t358 != 1) = true := bne_iff_ne.mpr c135
     replace H := Option.bind_eq_some_iff.mp H
     obtain ⟨⟨t366, t367⟩, A1400, H⟩ := H
     try dsimp only at H
     have A140 := mk_ A1400
     clear A1400
     by_cases c141 : 0 < (x13_117.length : Int)
     rotate_left
     ·rw [if_neg c141] at H
      exact absurd H (by simp)
     rw [if_pos c141] at H
     have c141b0 : decide (0 < (x13_117.length : Int)) = true := decide_eq_true c141
     have c141b1 : decide (0 < x13_117.length) = true := decide_eq_true (by omega)
     clear c141
     obtain ⟨y368, hy368⟩ : ∃ y_ : List (S47), y_ = (x13_117.set (0 : Int).toNat (⟨t366, 6⟩ : S47)) := ⟨_, rfl⟩
     first | (replace H := bn_ hy368 H; try dsimp only at H) | rw [← hy368] at H
     have Ny368 := mk_ hy368
     clear hy368
     simp only [Option.some.injEq, Prod.mk.injEq] at H
     obtain ⟨rfl, rfl⟩ := H
     go_wp2_with (first | ((with_reducible refine gate_callee (f := 88) rfl ?_); refine goesL_ (some 119) rfl rfl Try.func88 (by kernel_rfl) rfl #[.pointer (some ⟨g, 0, none⟩), .int .i64 a2] rfl gl_ ?_; (with_reducible refine (spec_l20Rd_odd.calls kj117 g s0_0 t352 a2 true t357 w0 _ ?side1 ?side2 A127.out).mono ?_); (case side1 => exact IsS117.below HI0.out lt_); (case side2 => exact below_at HB.out); rintro e w143 ⟨rfl, hi, hb, hk⟩; refine ⟨_, rfl, ?_⟩; replace HO_13 := mk_ (Kd.R_mono (Kd.R_keep (IsS117.apart (show IsS117 w0 _ g s0_0 t352 from IsS117.below HI0.out lt_) (Kd.R_below HO_13.out lt_) (by decide)) hk (fun _ h => h.2)) (fun _ h => h.1)); replace HK := mk_ (KeepBut.trans (keep_at HK.out) hk (.inl rfl)); replace HB := mk_ (hb); replace HI0 := mk_ (hi); (try clear hb)) | ((with_reducible refine gate_callee (f := 60) rfl ?_); refine goesL_ (some 121) rfl rfl Try.func60 (by kernel_rfl) rfl #[.pointer (some ⟨g, 0, none⟩), .int .i64 3] rfl gl_ ?_; (with_reducible refine (spec_l20Rd_pick.calls kj117 g s0_0 t357 3 t358 t359 w0 _ ?side1 ?side2 A129.out).mono ?_); (case side1 => exact IsS117.below HI0.out lt_); (case side2 => exact below_at HB.out); rintro e w144 ⟨rfl, hi, hb, hk⟩; refine ⟨_, rfl, ?_⟩; replace HO_13 := mk_ (Kd.R_mono (Kd.R_keep (IsS117.apart (show IsS117 w0 _ g s0_0 t357 from IsS117.below HI0.out lt_) (Kd.R_below HO_13.out lt_) (by decide)) hk (fun _ h => h.2)) (fun _ h => h.1)); replace HK := mk_ (KeepBut.trans (keep_at HK.out) hk (.inl rfl)); replace HB := mk_ (hb); replace HI0 := mk_ (hi); (try clear hb)) | ((with_reducible refine gate_callee (f := 60) rfl ?_); refine goesL_ (some 124) rfl rfl Try.func60 (by kernel_rfl) rfl #[.pointer (some ⟨g, 0, none⟩), .int .i64 2] rfl gl_ ?_; (with_reducible refine (spec_l20Rd_pick.calls kj117 g s0_0 t359 2 t366 t367 w0 _ ?side1 ?side2 A140.out).mono ?_); (case side1 => exact IsS117.below HI0.out lt_); (case side2 => exact below_at HB.out); rintro e w145 ⟨rfl, hi, hb, hk⟩; refine ⟨_, rfl, ?_⟩; replace HO_13 := mk_ (Kd.R_mono (Kd.R_keep (IsS117.apart (show IsS117 w0 _ g s0_0 t359 from IsS117.below HI0.out lt_) (Kd.R_below HO_13.out lt_) (by decide)) hk (fun _ h => h.2)) (fun _ h => h.1)); replace HK := mk_ (KeepBut.trans (keep_at HK.out) hk (.inl rfl)); replace HB := mk_ (hb); replace HI0 := mk_ (hi); (try clear hb); have p142 : 0 ≤ (0 : Int) := (by omega); have q142 : (0 : Int) < ((x13_117.length : Int) : Int) := oa_; have qi142 : (0 < x13_117.length) = True := eq_true (by omega); obtain ⟨go142, co142, eo142, gb142, gl142, cl142, HG142⟩ := Kd.R_form HO_13.out (by omega); (first | cases eo142 | (injection eo142 with ea_ en_ ec_; (first | subst ea_ | (injection ea_ with ea_; subst ea_)); subst ec_; clear en_)); have GB142 := mk_ gb142; have GG142 := mk_ HG142; clear gb142 gl142 HG142; obtain ⟨ce142, hcl142, hM142, hcc142, hfr142⟩ := Kd.R_elem HO_13.out z47 (0 : Int) p142 q142; obtain rfl := k47_openM hM142; have hx142_0 : w145.cell? ⟨go142, (0 : Int).toNat * 2, none⟩ = some (.int .i64 ((rd_T47 x13_117 0).f0)) := hcc142 0 _ rfl; have hx142_1 : w145.cell? ⟨go142, (0 : Int).toNat * 2 + 1, none⟩ = some (.int .i64 ((rd_T47 x13_117 0).f1)) := hcc142 1 _ rfl; have hf142_0 : w145.frozen? ⟨go142, (0 : Int).toNat * 2, none⟩ = false := hfr142 0; have hf142_1 : w145.frozen? ⟨go142, (0 : Int).toNat * 2 + 1, none⟩ = false := hfr142 1; (try clear hM142); clear hcl142 hcc142 hfr142; (try rw [show ((0 : Int)).toNat = 0 from rfl] at hx142_0); (try simp only [Nat.reduceMul, Nat.zero_mul, Nat.zero_add, Nat.reduceAdd] at hx142_0); (try rw [show ((0 : Int)).toNat = 0 from rfl] at hf142_0); (try simp only [Nat.reduceMul, Nat.zero_mul, Nat.zero_add, Nat.reduceAdd] at hf142_0); (try rw [show ((0 : Int)).toNat = 0 from rfl] at hx142_1); (try simp only [Nat.reduceMul, Nat.zero_mul, Nat.zero_add, Nat.reduceAdd] at hx142_1); (try rw [show ((0 : Int)).toNat = 0 from rfl] at hf142_1); (try simp only [Nat.reduceMul, Nat.zero_mul, Nat.zero_add, Nat.reduceAdd] at hf142_1); replace p142 := eq_true p142; replace q142 := eq_true q142; have HX146 := mk_ (show Kd.R k47 47 w145 w.heap.size (fun _ => True) (.slice (some ⟨go142, 0, none⟩) x13_117.length co142) x13_117 from (Kd.R_below HO_13.out lt_)); obtain ⟨ce146, hcl146, hM146, hcc146, hfr146⟩ := Kd.R_elem HX146.out z47 (0 : Int) (by omega) (by have h_ : (0 : Int) < ((x13_117.length : Int) : Int) := oa_; first | exact h_ | (have e_ := (Kd.R_reads' HO_13.out).1; omega) | simpa using h_); obtain rfl := k47_openM hM146; have HP146 := Kd.R_seg HX146.out (0 : Int) (by omega) (by have h_ : (0 : Int) < ((x13_117.length : Int) : Int) := oa_; first | exact h_ | (have e_ := (Kd.R_reads' HO_13.out).1; omega) | simpa using h_) (seg := [.int .i64 t366, .int .i64 6]) (j := 0) hcl146 hcc146 (show 2 ≤ 2 from by decide) (x' := (⟨t366, 6⟩ : S47)) (k47_mkM _ _ _ (⟨t366, 6⟩ : S47) ) (fun _ hk => hk); have hx146_0 := hcc146 0 _ rfl; (try simp only [show (k47).sz = 2 from rfl, Nat.mul_one, Nat.add_zero] at hx146_0); (try rw [show ((0 : Int)).toNat = 0 from rfl] at hx146_0); (try simp only [Nat.reduceMul, Nat.zero_mul, Nat.zero_add, Nat.reduceAdd] at hx146_0); have hf146_0 := hfr146 0; (try simp only [show (k47).sz = 2 from rfl, Nat.mul_one, Nat.add_zero] at hf146_0); (try rw [show ((0 : Int)).toNat = 0 from rfl] at hf146_0); (try simp only [Nat.reduceMul, Nat.zero_mul, Nat.zero_add, Nat.reduceAdd] at hf146_0); have hx146_1 := hcc146 1 _ rfl; (try simp only [show (k47).sz = 2 from rfl, Nat.mul_one, Nat.add_zero] at hx146_1); (try rw [show ((0 : Int)).toNat = 0 from rfl] at hx146_1); (try simp only [Nat.reduceMul, Nat.zero_mul, Nat.zero_add, Nat.reduceAdd] at hx146_1); have hf146_1 := hfr146 1; (try simp only [show (k47).sz = 2 from rfl, Nat.mul_one, Nat.add_zero] at hf146_1); (try rw [show ((0 : Int)).toNat = 0 from rfl] at hf146_1); (try simp only [Nat.reduceMul, Nat.zero_mul, Nat.zero_add, Nat.reduceAdd] at hf146_1); (try clear hM146); clear hcl146 hcc146 hfr146) | ((with_reducible refine gate_store (t := 47) (p := 126) rfl ?_); refine store_event (t := 47) (p := 126) (v := ?vo_w147) (w1 := ((w145.setCell ⟨go142, 0, none⟩ (.int .i64 t366)).setCell ⟨go142, 1, none⟩ (.int .i64 6))) ?hg ?ho ?hn ?hr ?_; (case ho => rfl); (case hg => rfl); (case hn => rfl); (case hr => first | (go_simp; done) | (go_simp; rfl)); intro w147 hw; have hg : w145.grownBy w147 (some go142) := (by rw [hw]; exact HP146.2); have hp_ : Kd.R k47 47 w147 w.heap.size (fun _ => True) (.slice (some ⟨go142, 0, none⟩) x13_117.length co142) y368 := (by rw [hw, Ny368.out]; exact HP146.1); clear HP146; replace HI0 := mk_ (IsS117.grown (IsS117.below HI0.out lt_) hg (IsS117.own_ne HI0.out HO_13.out (by decide))); replace HB := mk_ ((by rw [hw]; exact below_set (below_set (HB.out) (Nat.le_trans HL.out GB142.out)) (Nat.le_trans HL.out GB142.out) : Below w0.heap.size w0 w147)); replace HK := mk_ (KeepBut.trans (keep_at HK.out) (KeepBut.of_grown hg g) (Kd.R_base2 HO_13.out)); replace HO_13 := mk_ (hp_); clear hg hw hp_))
     go_ret
     exact ⟨_, by first | rfl | (simp [errW_none, errW_some] <;> rfl) | (simp only [← hji4, ← hji5]; first | rfl | (simp [errW_none, errW_some] <;> rfl)) | (simp [*, errW_none, errW_some] <;> rfl), rl_ HO_13.out, IsS117.below HI0.out lt_, below_at HB.out, keep_at HK.out⟩
   rw [if_pos c29] at H
   have c29b0 : decide (1 < (x7_2.length : Int)) = true := decide_eq_true c29
   have c29b1 : decide (1 < x7_2.length) = true := decide_eq_true (by omega)
   clear c29
   replace H := Option.bind_eq_some_iff.mp H
   obtain ⟨⟨t253, t254⟩, A300, H⟩ := H
   try dsimp only at H
   have A30 := mk_ A300
   clear A300
   by_cases c31 : x9_2 > 0
   rotate_left
   ·rw [if_neg c31] at H
    have c31b0 : decide (0 < x9_2) = false := decide_eq_false c31
    clear c31
    obtain ⟨y306, hy306⟩ : ∃ y_ : List (S47), y_ = (([] : List (S47))) := ⟨_, rfl⟩
    replace H : (if 0 ≤ t253 then (if t253 < (x7_2.length : Int) then (if y306.length + (rd_Lparts x7_2 t253).length < 8796093022208 then ((some (y306 ++ (rd_Lparts x7_2 t253) : List (S47))).bind fun y310 => (if 0 ≤ (wrap64 (t253 + 1)) then (if (wrap64 (t253 + 1)) < (x7_2.length : Int) then (if y310.length + (rd_Lparts x7_2 (wrap64 (t253 + 1))).length < 8796093022208 then ((some (y310 ++ (rd_Lparts x7_2 (wrap64 (t253 + 1))) : List (S47))).bind fun y314 => ((spec_l20Rd_pick.f k2 s0_0 t254 3).bind fun bt317 => (if y314.length < 8796093022208 then ((some (([] : List (List (S47))) : List (List (S47)))).bind fun y322 => (if t253 ≤ (x7_2.length : Int) then ((some (x7_2.take (t253 : Int).toNat : List (List (S47)))).bind fun y325 => (if y322.length + y325.length < 5864062014805 then ((some (y322 ++ y325 : List (List (S47)))).bind fun y330 => (if y330.length < 5864062014805 then ((some (y330 ++ [(y314 ++ [(⟨wrap64 (3 + bt317.1), 0⟩ : S47)])] : List (List (S47)))).bind fun y333 => (if 0 ≤ (wrap64 (t253 + 2)) then (if (wrap64 (t253 + 2)) ≤ (x7_2.length : Int) then ((some (x7_2.drop ((wrap64 (t253 + 2)) : Int).toNat : List (List (S47)))).bind fun y336 => (if y333.length + y336.length < 5864062014805 then (spec_l20Term.l1 k2 a2 (y333 ++ y336) x9_2 s0_0 bt317.2) else (none))) else (none)) else (none))) else (none))) else (none))) else (none))) else (none)))) else (none)) else (none)) else (none))) else (none)) else (none)) else (none)) = some (r1, r2) := by first | (rw [hy306]; exact H) | exact H
    have Ny306 := mk_ hy306
    clear hy306
    by_cases c82 : 0 ≤ t253
    rotate_left
    ·rw [if_neg c82] at H
     exact absurd H (by simp)
    rw [if_pos c82] at H
    have c82b0 : decide (0 ≤ t253) = true := decide_eq_true c82
    clear c82
    by_cases c83 : t253 < (x7_2.length : Int)
    rotate_left
    ·rw [if_neg c83] at H
     exact absurd H (by simp)
    rw [if_pos c83] at H
    have c83b0 : decide (t253 < (x7_2.length : Int)) = true := decide_eq_true c83
    clear c83
    by_cases c84 : y306.length + (rd_Lparts x7_2 t253).length < 8796093022208
    rotate_left
    ·rw [if_neg c84] at H
     exact absurd H (by simp)
    rw [if_pos c84] at H
    have LMc84 := mk_ c84
    clear c84
    obtain ⟨y310, hy310⟩ : ∃ y_ : List (S47), y_ = (y306 ++ (rd_Lparts x7_2 t253)) := ⟨_, rfl⟩
    first | (replace H := bn_ hy310 H; try dsimp only at H) | rw [← hy310] at H
    have Ny310 := mk_ hy310
    clear hy310
    obtain ⟨ji85, hji85⟩ : ∃ j_ : Int, (wrap64 (t253 + 1)) = j_ := ⟨_, rfl⟩
    first | rw [hji85] at H | simp only [hji85] at H
    (try rw [hji85] at A30)
    have hji85w : (IntKind.i64.wrap (t253 + 1)) = ji85 := (i64_w _).trans hji85
    by_cases c86 : 0 ≤ (ji85)
    rotate_left
    ·rw [if_neg c86] at H
     exact absurd H (by simp)
    rw [if_pos c86] at H
    have c86b0 : decide (0 ≤ (ji85)) = true := decide_eq_true c86
    clear c86
    by_cases c87 : (ji85) < (x7_2.length : Int)
    rotate_left
    ·rw [if_neg c87] at H
     exact absurd H (by simp)
    rw [if_pos c87] at H
    have c87b0 : decide ((ji85) < (x7_2.length : Int)) = true := decide_eq_true c87
    clear c87
    by_cases c88 : y310.length + (rd_Lparts x7_2 (ji85)).length < 8796093022208
    rotate_left
    ·rw [if_neg c88] at H
     exact absurd H (by simp)
    rw [if_pos c88] at H
    have LMc88 := mk_ c88
    clear c88
    obtain ⟨y314, hy314⟩ : ∃ y_ : List (S47), y_ = (y310 ++ (rd_Lparts x7_2 (ji85))) := ⟨_, rfl⟩
    first | (replace H := bn_ hy314 H; try dsimp only at H) | rw [← hy314] at H
    have Ny314 := mk_ hy314
    clear hy314
    replace H := Option.bind_eq_some_iff.mp H
    obtain ⟨⟨t317, t318⟩, A890, H⟩ := H
    try dsimp only at H
    have A89 := mk_ A890
    clear A890
    by_cases c90 : y314.length < 8796093022208
    rotate_left
    ·rw [if_neg c90] at H
     exact absurd H (by simp)
    rw [if_pos c90] at H
    have LMc90 := mk_ c90
    clear c90
    obtain ⟨y319, hy319⟩ : ∃ y_ : List (S47), y_ = (y314 ++ [(⟨wrap64 (3 + t317), 0⟩ : S47)]) := ⟨_, rfl⟩
    first | (replace H := bn_ hy319 H; try dsimp only at H) | rw [← hy319] at H
    have Ny319 := mk_ hy319
    clear hy319
    obtain ⟨y322, hy322⟩ : ∃ y_ : List (List (S47)), y_ = (([] : List (List (S47)))) := ⟨_, rfl⟩
    replace H : (if t253 ≤ (x7_2.length : Int) then ((some (x7_2.take (t253 : Int).toNat : List (List (S47)))).bind fun y325 => (if y322.length + y325.length < 5864062014805 then ((some (y322 ++ y325 : List (List (S47)))).bind fun y330 => (if y330.length < 5864062014805 then ((some (y330 ++ [y319] : List (List (S47)))).bind fun y333 => (if 0 ≤ (wrap64 (t253 + 2)) then (if (wrap64 (t253 + 2)) ≤ (x7_2.length : Int) then ((some (x7_2.drop ((wrap64 (t253 + 2)) : Int).toNat : List (List (S47)))).bind fun y336 => (if y333.length + y336.length < 5864062014805 then (spec_l20Term.l1 k2 a2 (y333 ++ y336) x9_2 s0_0 t318) else (none))) else (none)) else (none))) else (none))) else (none))) else (none)) = some (r1, r2) := by first | (rw [hy322]; exact H) | exact H
    have Ny322 := mk_ hy322
    clear hy322
    have c91b0 := eq_true (oa_ : 0 ≤ t253)
    by_cases c92 : t253 ≤ (x7_2.length : Int)
    rotate_left
    ·rw [if_neg c92] at H
     exact absurd H (by simp)
    rw [if_pos c92] at H
    have c92b0 := eq_true c92
    have c92b1 : decide (t253 ≤ (x7_2.length : Int)) = true := decide_eq_true c92
    clear c92
    obtain ⟨y325, hy325⟩ : ∃ y_ : List (List (S47)), y_ = (x7_2.take (t253 : Int).toNat) := ⟨_, rfl⟩
    first | (replace H := bn_ hy325 H; try dsimp only at H) | rw [← hy325] at H
    have Ny325 := mk_ hy325
    clear hy325
    by_cases c93 : y322.length + y325.length < 5864062014805
    rotate_left
    ·rw [if_neg c93] at H
     exact absurd H (by simp)
    rw [if_pos c93] at H
    have LMc93 := mk_ c93
    clear c93
    obtain ⟨y330, hy330⟩ : ∃ y_ : List (List (S47)), y_ = (y322 ++ y325) := ⟨_, rfl⟩
    first | (replace H := bn_ hy330 H; try dsimp only at H) | rw [← hy330] at H
    have Ny330 := mk_ hy330
    clear hy330
    by_cases c94 : y330.length < 5864062014805
    rotate_left
    ·rw [if_neg c94] at H
     exact absurd H (by simp)
    rw [if_pos c94] at H
    have LMc94 := mk_ c94
    clear c94
    obtain ⟨y333, hy333⟩ : ∃ y_ : List (List (S47)), y_ = (y330 ++ [y319]) := ⟨_, rfl⟩
    first | (replace H := bn_ hy333 H; try dsimp only at H) | rw [← hy333] at H
    have Ny333 := mk_ hy333
    clear hy333
    obtain ⟨ji95, hji95⟩ : ∃ j_ : Int, (wrap64 (t253 + 2)) = j_ := ⟨_, rfl⟩
    first | rw [hji95] at H | simp only [hji95] at H
    (try rw [hji95] at A30)
    (try rw [hji95] at A89)
    have hji95w : (IntKind.i64.wrap (t253 + 2)) = ji95 := (i64_w _).trans hji95
    by_cases c96 : 0 ≤ (ji95)
    rotate_left
    ·rw [if_neg c96] at H
     exact absurd H (by simp)
    rw [if_pos c96] at H
    have c96b0 := eq_true c96
    have c96b1 : decide (0 ≤ (ji95)) = true := decide_eq_true c96
    clear c96
    by_cases c97 : (ji95) ≤ (x7_2.length : Int)
    rotate_left
    ·rw [if_neg c97] at H
     exact absurd H (by simp)
    rw [if_pos c97] at H
    have c97b0 := eq_true c97
    have c97b1 : decide ((ji95) ≤ (x7_2.length : Int)) = true := decide_eq_true c97
    clear c97
    obtain ⟨y336, hy336⟩ : ∃ y_ : List (List (S47)), y_ = (x7_2.drop ((ji95) : Int).toNat) := ⟨_, rfl⟩
    first | (replace H := bn_ hy336 H; try dsimp only at H) | rw [← hy336] at H
    have Ny336 := mk_ hy336
    clear hy336
    by_cases c98 : y333.length + y336.length < 5864062014805
    rotate_left
    ·rw [if_neg c98] at H
     exact absurd H (by simp)
    rw [if_pos c98] at H
    have LMc98 := mk_ c98
    clear c98
    obtain ⟨y341, hy341⟩ : ∃ y_ : List (List (S47)), y_ = (y333 ++ y336) := ⟨_, rfl⟩
    first | (replace H := bn_ hy341 H; try dsimp only at H) | rw [← hy341] at H
    have Ny341 := mk_ hy341
    clear hy341
    have H' := mk_ H
    clear H
    obtain ⟨Ao99, co99, eo99⟩ := Kd.N_slice HO_7.out
    subst eo99
    go_wp2_with (first | ((with_reducible refine gate_callee (f := 60) rfl ?_); refine goesL_ (some 52) rfl rfl Try.func60 (by kernel_rfl) rfl #[.pointer (some ⟨g, 0, none⟩), .int .i64 (wrap64 ((x7_2.length : Int) - 1))] rfl gl_ ?_; (with_reducible refine (spec_l20Rd_pick.calls k2 g s0_0 x1001_2 (wrap64 ((x7_2.length : Int) - 1)) t253 t254 w0 _ ?side1 ?side2 A30.out).mono ?_); (case side1 => exact IsS117.below HI0.out lt_); (case side2 => exact below_at HB.out); rintro e w100 ⟨rfl, hi, hb, hk⟩; refine ⟨_, rfl, ?_⟩; replace HO_7 := mk_ (Kd.N_mono (Kd.N_keep (Kd.N_mono (ok := fun k_ => k_ ≠ g) (Kd.N_below HO_7.out lt_) (fun k_ hk_ => (⟨hk_, hk_⟩ : _ ∧ k_ ≠ g))) hk (fun _ h => h.2)) (fun _ h => h.1)); replace HK := mk_ (KeepBut.trans (keep_at HK.out) hk (.inl rfl)); replace HB := mk_ (hb); replace HI0 := mk_ (hi); (try clear hb)))
    replace HO_7 := mk_ (Kd.N_drew HO_7.out)
    replace HI0 := mk_ (IsS117.drew HI0.out)
    replace HK := mk_ (keep_drew HK.out)
    replace HB := mk_ (below_drew1 HB.out)
    have p309 : 0 ≤ (t253 : Int) := oa_
    have q309 : t253 < (x7_2.length : Int) := oa_
    obtain ⟨ad309, A309_0, c309_0, e309, hx309_0, hl309_0, hi309_0⟩ := at_Lparts (own_C (Kd.N_reads' HO_7.out).2.2) t253 p309 q309
    cases e309
    obtain ⟨ce309, hce309, hMe309, hcc309⟩ := Kd.N_get HO_7.out [] t253 p309 (by first | exact q309 | exact oa_ | (have e_ := (Kd.N_reads' HO_7.out).1; omega))
    obtain ⟨ua309_0, uc309_0, rfl, ul309_0, ge309_0⟩ := FK_own_open hMe309
    have hv309_0 := hcc309 0 _ rfl
    rw [Nat.add_zero, show ((ownd 47 k47 w.heap.size)).sz = 1 from rfl, Nat.mul_one] at hv309_0
    replace hv309_0 := Option.some.inj (hv309_0.symm.trans hx309_0)
    injection hv309_0 with hva_ hvn_ hvc_
    rw [hva_] at ge309_0
    rw [hvc_] at ul309_0
    have HL309_0 := mk_ (show Kd.V k47 47 _ w.heap.size _ _ (rd_Lparts x7_2 t253) from Kd.V_mk ul309_0 ge309_0)
    clear hva_ hvn_ hvc_ ge309_0 ul309_0
    clear hcc309 hce309
    have HR309_0 := mk_ hi309_0
    have HC309_0 := mk_ hl309_0
    clear hi309_0 hl309_0
    replace p309 := eq_true p309
    replace q309 := eq_true q309
    have p313 : 0 ≤ ((ji85) : Int) := oa_
    have q313 : (ji85) < (x7_2.length : Int) := oa_
    obtain ⟨ad313, A313_0, c313_0, e313, hx313_0, hl313_0, hi313_0⟩ := at_Lparts (own_C (Kd.N_reads' HO_7.out).2.2) (ji85) p313 q313
    obtain rfl : ad309 = ad313 := (by injection e313)
    obtain ⟨ce313, hce313, hMe313, hcc313⟩ := Kd.N_get HO_7.out [] (ji85) p313 (by first | exact q313 | exact oa_ | (have e_ := (Kd.N_reads' HO_7.out).1; omega))
    obtain ⟨ua313_0, uc313_0, rfl, ul313_0, ge313_0⟩ := FK_own_open hMe313
    have hv313_0 := hcc313 0 _ rfl
    rw [Nat.add_zero, show ((ownd 47 k47 w.heap.size)).sz = 1 from rfl, Nat.mul_one] at hv313_0
    replace hv313_0 := Option.some.inj (hv313_0.symm.trans hx313_0)
    injection hv313_0 with hva_ hvn_ hvc_
    rw [hva_] at ge313_0
    rw [hvc_] at ul313_0
    have HL313_0 := mk_ (show Kd.V k47 47 _ w.heap.size _ _ (rd_Lparts x7_2 (ji85)) from Kd.V_mk ul313_0 ge313_0)
    clear hva_ hvn_ hvc_ ge313_0 ul313_0
    clear hcc313 hce313
    have HR313_0 := mk_ hi313_0
    have HC313_0 := mk_ hl313_0
    clear hi313_0 hl313_0
    replace p313 := eq_true p313
    replace q313 := eq_true q313
    refine start_ (n := 19) (S := fun w' => w'.cell? (ad309.add (t253).toNat) = some (.slice A309_0 (rd_Lparts x7_2 t253).length c309_0) ∧ w'.cell? (ad309.add ((ji85)).toNat) = some (.slice A313_0 (rd_Lparts x7_2 (ji85)).length c313_0)) (ds := [11, 13, 16, 17]) #[false, false, false, false, false, false, false, false, false, false, false, false, false, false, false, false, false, false, false] (by kernel_rfl) rfl rfl ⟨hx309_0, hx313_0⟩ (fun hHeld => ?_)
    generalize w100.drew = wd_ at HO_7 HI0 HK HB HL309_0 HL313_0 HR309_0 HR313_0 hx309_0 hx313_0 hHeld ⊢
    refine pur_ 1 (some 75) #[false, true, false, false, false, false, false, false, false, false, false, false, false, false, false, false, false, false, false] (by kernel_rfl) ?_
    refine pur_ 2 (some 76) #[false, true, true, false, false, false, false, false, false, false, false, false, false, false, false, false, false, false, false] (by kernel_rfl) ?_
    refine pur_ 3 (some 77) #[false, true, true, true, false, false, false, false, false, false, false, false, false, false, false, false, false, false, false] (by kernel_rfl) ?_
    refine pur_ 6 (some 80) #[false, true, true, true, false, false, true, false, false, false, false, false, false, false, false, false, false, false, false] (by kernel_rfl) ?_
    refine pur_ 7 (some 81) #[false, true, true, true, false, false, true, true, false, false, false, false, false, false, false, false, false, false, false] (by kernel_rfl) ?_
    refine pur_ 8 (some 82) #[false, true, true, true, false, false, true, true, true, false, false, false, false, false, false, false, false, false, false] (by kernel_rfl) ?_
    refine pur_ 9 (some 83) #[false, true, true, true, false, false, true, true, true, true, false, false, false, false, false, false, false, false, false] (by kernel_rfl) ?_
    refine pur_ 12 (some 86) #[false, true, true, true, false, false, true, true, true, true, false, false, true, false, false, false, false, false, false] (by kernel_rfl) ?_
    refine tak_ 4 (some 78) #[false, true, true, true, true, false, true, true, true, true, false, false, true, false, false, false, false, false, false] (by kernel_rfl) hHeld ?_
    refine tak_ 10 (some 84) #[false, true, true, true, true, false, true, true, true, true, true, false, true, false, false, false, false, false, false] (by kernel_rfl) hHeld ?_
    refine one_ (i := 0) (N := some 74) #[true, true, true, true, true, false, true, true, true, true, true, false, true, false, false, false, false, false, false] rfl rfl (by kernel_rfl) (by decide) (fun K hK => ?_)
    refine Kd.R_lit_step k47 _ 47 (by rfl) (N := 74) rfl (xs := ([] : List (S47))) (inner := []) (ok := fun _ => True) (okp := fun _ => True) ?hr ?hp (fun _ hk => hk) trivial (Below.refl _ _) (Nat.le_refl _) (by simp) ?_
    (case hr => first | (go_simp; done) | (go_simp; rfl))
    (case hp => exact (Reps.none _ _))
    intro v307 w101 ho102 hb hg_ hnew_
    clear hg_ hnew_
    (first | rw [← Ny306.out] at ho102 | (simp only [Int.reduceToNat] at ho102; rw [← Ny306.out] at ho102))
    have nl1_ := mk_ (Kd.V_elder' HL309_0.out (Kd.R_base ho102) hb)
    have nl2_ := mk_ (Kd.V_elder' HL313_0.out (Kd.R_base ho102) hb)
    have ns1_ := cell_old hHeld.1 hb
    have ns2_ := cell_old hHeld.2 hb
    clear HL309_0
    clear HL313_0
    clear hHeld
    have HL309_0 := nl1_
    have HL313_0 := nl2_
    clear nl1_ nl2_
    replace HO_7 := mk_ (Kd.N_elder' (Kd.N_below HO_7.out lt_) (Kd.R_base ho102) hb)
    have HO308 := mk_ (Kd.R_lower ho102 (keep_size (w := w) (g := g) (row := none) (keep_at HK.out)))
    replace HI0 := mk_ (IsS117.below (IsS117.below HI0.out lt_) hb)
    replace HK := mk_ (KeepBut.trans (keep_at HK.out) (KeepBut.of_below hb g none) (.inl rfl))
    replace HB := mk_ (below_step (below_at HB.out) hb)
    clear hb ho102
    refine hK.out _ _ ⟨ns1_, ns2_⟩ (fun hHeld => ?_)
    clear hK K
    refine nor_ (some 74) ?_
    clear ns1_ ns2_
    refine one_ (i := 5) (N := some 79) #[true, true, true, true, true, true, true, true, true, true, true, false, true, false, false, false, false, false, false] rfl rfl (by kernel_rfl) (by decide) (fun K hK => ?_)
    refine Kd.R_append_rows_step k47 w.heap.size (by rfl) (.tmp 74) (.tmp 78) 36 47 (.agg #[(.int .i64 0), (.int .i64 0)]) 16 rfl Try.underlying36 info47p rfl (by decide) (by omega) v307 y306 (rd_Lparts x7_2 t253) _ _ _ (fun _ => True) (fun _ => False) rfl rfl ?aO ?aR (fun _ _ h => h) (fun _ h => h.elim) ?aF (Below.refl _ _) ?aS ?aL ?_
    (case aR => exact Kd.F_now (Kd.V_F HL309_0.out))
    (case aF => exact (fun _ _ => trivial))
    (case aO => exact (Kd.R_below HO308.out lt_))
    (case aS => exact (keep_size (w := w) (g := g) (row := none) (keep_at HK.out)))
    (case aL => have := LMc84.out; omega)
    intro v311 w103 ho hb hg hat
    rw [← Ny310.out] at ho
    have ns1_ := cell_apart hHeld.1 hg (HO_7.out.1 _ rfl).2
    have ns2_ := cell_apart hHeld.2 hg (HO_7.out.1 _ rfl).2
    clear hHeld
    have n0_ := mk_ (Kd.N_afterv (ok := (fun k_ => k_ ≠ g)) (Kd.N_below HO_7.out lt_) hg hat)
    have n1_ := mk_ (IsS117.grown (IsS117.below HI0.out lt_) hg (IsS117.own_ne HI0.out HO308.out (by decide)))
    have n2_ := mk_ (Kd.V_afterv (ok := (fun k_ => some k_ ≠ (.slice (some ad309) x7_2.length co99 : Value).ownBlock ∧ k_ ≠ g)) (Kd.V_mono HL309_0.out (fun _ hk => ⟨⟨hk.1.2, hk.1.1⟩, hk.2⟩)) hg hat)
    have nl2_ := mk_ (Kd.V_afterv (ok := (fun k_ => some k_ ≠ (.slice (some ad309) x7_2.length co99 : Value).ownBlock ∧ k_ ≠ g)) (Kd.V_mono HL313_0.out (fun _ hk => ⟨⟨hk.1.2, hk.1.1⟩, hk.2⟩)) hg hat)
    have n3_ := mk_ (below_weaken (below_at HB.out) HL.out hb)
    have n4_ := mk_ (KeepBut.trans (keep_at HK.out) (KeepBut.of_grown hg g) (Kd.R_base2 HO308.out))
    have n5_ := mk_ (ho)
    clear HO_7
    clear HI0
    clear HL309_0
    clear HL313_0
    have HL313_0 := nl2_
    clear nl2_
    clear HB
    clear HK
    clear HO308
    have HO_7 := n0_
    have HI0 := n1_
    have HL309_0 := n2_
    have HB := n3_
    have HK := n4_
    have HO312 := n5_
    clear n0_ n1_ n2_ n3_ n4_ n5_
    clear ho hb hg hat
    refine hK.out _ _ ⟨ns1_, ns2_⟩ (fun hHeld => ?_)
    clear hK K
    refine nor_ (some 79) ?_
    clear ns1_ ns2_
    refine last_ (i := 11) (N := some 85) #[true, true, true, true, true, true, true, true, true, true, true, true, true, false, false, false, false, false, false] rfl rfl (by kernel_rfl) (by decide) (fun K hK => ?_)
    refine Kd.R_append_rows_step k47 w.heap.size (by rfl) (.tmp 79) (.tmp 84) 36 47 (.agg #[(.int .i64 0), (.int .i64 0)]) 16 rfl Try.underlying36 info47p rfl (by decide) (by omega) v311 y310 (rd_Lparts x7_2 (ji85)) _ _ _ (fun _ => True) (fun _ => False) rfl rfl ?aO ?aR (fun _ _ h => h) (fun _ h => h.elim) ?aF (Below.refl _ _) ?aS ?aL ?_
    (case aR => exact Kd.F_now (Kd.V_F HL313_0.out))
    (case aF => exact (fun _ _ => trivial))
    (case aO => exact (Kd.R_below HO312.out lt_))
    (case aS => exact (keep_size (w := w) (g := g) (row := none) (keep_at HK.out)))
    (case aL => have := LMc88.out; omega)
    intro v315 w104 ho hb hg hat
    rw [← Ny314.out] at ho
    replace HO_7 := mk_ (Kd.N_afterv (ok := (fun k_ => k_ ≠ g)) (Kd.N_below HO_7.out lt_) hg hat)
    replace HI0 := mk_ (IsS117.grown (IsS117.below HI0.out lt_) hg (IsS117.own_ne HI0.out HO312.out (by decide)))
    replace HB := mk_ (below_weaken (below_at HB.out) HL.out hb)
    replace HK := mk_ (KeepBut.trans (keep_at HK.out) (KeepBut.of_grown hg g) (Kd.R_base2 HO312.out))
    have HO316 := mk_ (ho)
    (try clear HL309_0 HL313_0 HO312)
    clear ho hb hg hat
    refine hK.out _ _ ?_
    clear hK K
    refine nor_ (some 85) ?_
    refine last_ (i := 13) (N := some 87) #[true, true, true, true, true, true, true, true, true, true, true, true, true, true, false, false, false, false, false] rfl rfl (by kernel_rfl) (by decide) (fun K hK => ?_)
    refine goes_ Try.func60 (by kernel_rfl) rfl #[.pointer (some ⟨g, 0, none⟩), .int .i64 3] (by rfl) rfl rfl gl_ ?_
    (with_reducible refine (spec_l20Rd_pick.calls k2 g s0_0 t254 3 t317 t318 w0 _ ?side1 ?side2 A89.out).mono ?_)
    (case side1 => exact IsS117.below HI0.out lt_)
    (case side2 => exact below_at HB.out)
    rintro e w105 ⟨rfl, hi, hb, hk⟩
    refine ⟨_, rfl, ?_⟩
    replace HO_7 := mk_ (Kd.N_mono (Kd.N_keep (Kd.N_mono (ok := fun k_ => (k_ ≠ g ∧ some k_ ≠ (v315 : Value).ownBlock)) (Kd.N_below HO_7.out lt_) (fun k_ hk_ => (⟨hk_, hk_.1⟩ : _ ∧ k_ ≠ g))) hk (fun _ h => h.2)) (fun _ h => h.1))
    replace HO316 := mk_ (Kd.R_mono (Kd.R_keep (IsS117.apart (show IsS117 w0 _ g s0_0 t254 from IsS117.below HI0.out lt_) (Kd.R_below HO316.out lt_) (by decide)) hk (fun _ h => h.2)) (fun _ h => h.1))
    replace HK := mk_ (KeepBut.trans (keep_at HK.out) hk (.inl rfl))
    replace HB := mk_ (hb)
    replace HI0 := mk_ (hi)
    (try clear HL309_0 HL313_0)
    (try clear hb)
    (try clear hb2)
    (try clear hk)
    (try clear hi)
    refine hK.out _ _ ?_
    clear hK K
    refine nor_ (some 87) ?_
    refine pur_ 14 (some 88) #[true, true, true, true, true, true, true, true, true, true, true, true, true, true, true, false, false, false, false] (by kernel_rfl) ?_
    refine pur_ 15 (some 89) #[true, true, true, true, true, true, true, true, true, true, true, true, true, true, true, true, false, false, false] (by kernel_rfl) ?_
    refine last_ (i := 16) (N := some 90) #[true, true, true, true, true, true, true, true, true, true, true, true, true, true, true, true, true, false, false] rfl rfl (by kernel_rfl) (by decide) (fun K hK => ?_)
    refine value_ (w1 := ?_) (v := ?_) (by rfl) rfl ?_ ?_
    rotate_left 2
    ·go_simp
     constructor
     ·rfl
     rfl
    refine hK.out _ _ ?_
    clear hK K
    refine nor_ (some 90) ?_
    refine last_ (i := 17) (N := some 91) #[true, true, true, true, true, true, true, true, true, true, true, true, true, true, true, true, true, true, false] rfl rfl (by kernel_rfl) (by decide) (fun K hK => ?_)
    refine Kd.R_append_step k47 w.heap.size (by rfl) (.tmp 85) (.tmp 90) 36 47 (.agg #[(.int .i64 0), (.int .i64 0)]) 16 rfl Try.underlying36 info47p rfl (by decide) (by omega) v315 y314 (⟨wrap64 (3 + t317), 0⟩ : S47) [.int .i64 (wrap64 (3 + t317)), .int .i64 0] (fun _ => True) (fun _ => False) rfl rfl ?aP (fun _ hk => hk.elim) ?aF ?aO (Below.refl _ _) ?aS ?aL ?_
    (case aP => exact k47_mkM _ _ _ (⟨wrap64 (3 + t317), 0⟩ : S47))
    (case aF => exact (fun _ _ => trivial))
    (case aO => exact (Kd.R_below HO316.out lt_))
    (case aS => exact (keep_size (w := w) (g := g) (row := none) (keep_at HK.out)))
    (case aL => have := LMc90.out; omega)
    intro v320 w106 ho hb hg hat
    rw [← Ny319.out] at ho
    replace HO_7 := mk_ (Kd.N_afterv (ok := (fun k_ => k_ ≠ g)) (Kd.N_below HO_7.out lt_) hg hat)
    replace HI0 := mk_ (IsS117.grown (IsS117.below HI0.out lt_) hg (IsS117.own_ne HI0.out HO316.out (by decide)))
    replace HB := mk_ (below_weaken (below_at HB.out) HL.out hb)
    replace HK := mk_ (KeepBut.trans (keep_at HK.out) (KeepBut.of_grown hg g) (Kd.R_base2 HO316.out))
    have HO321 := mk_ (ho)
    (try clear HL309_0 HL313_0 HO316)
    clear ho hb hg hat
    refine hK.out _ _ ?_
    clear hK K
    refine nor_ (some 91) ?_
    refine pur_ 18 (some 11) #[true, true, true, true, true, true, true, true, true, true, true, true, true, true, true, true, true, true, true] (by kernel_rfl) ?_
    refine done_ (by kernel_rfl) ?_
    go_wp2_with (first | ((with_reducible refine gate_dst (N := 92) rfl ?_); refine Kd.N_lit (ownd 47 k47 w.heap.size) _ 36 ?hg (N' := 92) ?hd (xs := ([] : List (List (S47)))) (inner := []) (ok := (fun k_ => some k_ ≠ (.slice (some ad309) x7_2.length co99 : Value).ownBlock ∧ some k_ ≠ (v320 : Value).ownBlock ∧ k_ ≠ g)) (okp := (fun k_ => some k_ ≠ (.slice (some ad309) x7_2.length co99 : Value).ownBlock ∧ some k_ ≠ (v320 : Value).ownBlock ∧ k_ ≠ g)) ?hr ?hp (fun _ hk => hk) ((show ∀ k_, w106.heap.size ≤ k_ → (fun k_ => some k_ ≠ (.slice (some ad309) x7_2.length co99 : Value).ownBlock ∧ some k_ ≠ (v320 : Value).ownBlock ∧ k_ ≠ g) k_ from fun k_ hk => ⟨Kd.fresh' (Kd.N_lt (Kd.N_below HO_7.out lt_)) k_ hk, Kd.fresh' (Kd.R_lt (Kd.R_below HO321.out lt_)) k_ hk, IsS117.fresh (IsS117.below HI0.out lt_) k_ hk⟩) _ (Nat.le_refl _)) (Below.refl _ _) (Nat.le_refl _) (by simp) ?_; (case hd => rfl); (case hg => rfl); (case hr => first | (go_simp; done) | (go_simp; rfl)); (case hp => exact (Reps.none _ _)); intro v323 w107 ho108 hb hg_ hnew_; clear hg_ hnew_; (first | rw [← Ny322.out] at ho108 | (simp only [Int.reduceToNat] at ho108; rw [← Ny322.out] at ho108)); replace HO_7 := mk_ (Kd.N_elder' (Kd.N_below HO_7.out lt_) (Kd.N_base ho108) hb); replace HO321 := mk_ (Kd.R_below (Kd.R_below HO321.out lt_) hb); have HO324 := mk_ (Kd.N_lower ho108 (keep_size (w := w) (g := g) (row := none) (keep_at HK.out))); replace HI0 := mk_ (IsS117.below (IsS117.below HI0.out lt_) hb); replace HK := mk_ (KeepBut.trans (keep_at HK.out) (KeepBut.of_below hb g none) (.inl rfl)); replace HB := mk_ (below_step (below_at HB.out) hb); (try clear HL309_0 HL313_0); clear hb ho108; have q109 : (t253 : Int) ≤ ((x7_2.length : Int) : Int) := oa_; obtain ⟨i0109, hi0109, _, hsz109, _⟩ := info_parts info36p; have hroom109 : x7_2.length ≤ co99 := (Kd.N_reads' HO_7.out).2.1; have hC109 : Kd.F (ownd 47 k47 w.heap.size) _ _ (some ad309) x7_2.length x7_2 := (Kd.V_at (base := w.heap.size) (Kd.N_V HO_7.out)).2.2; have hcut109 := cut_to (P := Try.prog) 129 36 .i64 Try.underlying129 hi0109 (some ad309) x7_2.length co99 t253 (oa_) q109 hroom109; have hr109 := Kd.F_take (m := (t253 : Int).toNat) hC109 (by omega); have hy109 : y325.length = (t253 : Int).toNat := (by rw [Ny325.out, List.length_take]; omega); rw [← Ny325.out] at hr109; rw [← hy109] at hcut109; have HO329 := mk_ (show Kd.V (ownd 47 k47 w.heap.size) 36 _ w.heap.size _ (.slice (some ad309) y325.length co99) y325 from Kd.V_mk (by omega) hr109); have HC329 := mk_ (show y325.length ≤ co99 from by omega); clear hr109 hC109 hroom109 hi0109 hsz109; have KY109 := mk_ hy109; clear hy109; replace q109 := eq_true q109) | ((with_reducible refine gate_builtin (b := .append) (xs := #[.tmp 92, .tmp 95]) rfl ?_); at_builtin; refine Kd.N_append_rows (ownd 47 k47 w.heap.size) w.heap.size rfl (.tmp 92) (.tmp 95) 129 36 (.slice none 0 0) 24 rfl Try.underlying129 info36p rfl Nat.one_pos (by omega) v323 y322 y325 _ _ _ (fun k_ => some k_ ≠ (v320 : Value).ownBlock ∧ k_ ≠ g) (fun k_ => ((fun k_ => some k_ ≠ (v320 : Value).ownBlock ∧ k_ ≠ g)) k_ ∧ some k_ ≠ (v323 : Value).ownBlock) rfl rfl ?aO ?aR (fun _ hk => hk) ?aF (Below.refl _ _) ?aS ?aL ?_; (case aR => exact (by skip; exact Kd.V_F (Kd.V_mono (ok' := (fun k_ => ((fun k_ => some k_ ≠ (v320 : Value).ownBlock ∧ k_ ≠ g)) k_ ∧ some k_ ≠ (v323 : Value).ownBlock)) (HO329.out) (fun k_ hk => ⟨⟨hk.1.2, hk.1.1⟩, hk.2⟩)))); (case aF => exact (fun k_ hk => ⟨Kd.fresh' (Kd.R_lt (Kd.R_below HO321.out lt_)) k_ hk, IsS117.fresh (IsS117.below HI0.out lt_) k_ hk⟩)); (case aO => exact (Kd.N_below (Kd.N_mono HO324.out (fun _ hk => ⟨hk.2.1, hk.2.2⟩)) lt_)); (case aS => exact (keep_size (w := w) (g := g) (row := none) (keep_at HK.out))); (case aL => have := LMc93.out; omega); intro v331 w110 ho hb hg hat; rw [← Ny330.out] at ho; replace HO_7 := mk_ (Kd.N_afterv (ok := (fun k_ => some k_ ≠ (v320 : Value).ownBlock ∧ k_ ≠ g)) (Kd.N_below (Kd.N_mono HO_7.out (fun _ hk => ⟨⟨hk.1.2, hk.1.1⟩, hk.2⟩)) lt_) hg hat); replace HI0 := mk_ (IsS117.grown (IsS117.below HI0.out lt_) hg (IsS117.own_neN HI0.out HO324.out (by decide))); replace HO321 := mk_ (Kd.R_over' (Kd.R_below HO321.out lt_) (Kd.N_typed (Kd.N_below HO324.out lt_)) (by decide) hg); replace HB := mk_ (below_weaken (below_at HB.out) HL.out hb); replace HK := mk_ (KeepBut.trans (keep_at HK.out) (KeepBut.of_grown hg g) (Kd.N_base2 HO324.out)); have HO332 := mk_ (ho); (try clear HL309_0 HL313_0 HO329 HO324); clear ho hb hg hat; obtain ⟨Ao112, co112, eo112⟩ := Kd.R_slice HO321.out; subst eo112) | ((with_reducible refine gate_builtin (b := .append) (xs := #[.tmp 97, .tmp 99]) rfl ?_); at_builtin; refine Kd.N_append (ownd 47 k47 w.heap.size) w.heap.size rfl (.tmp 97) (.tmp 99) 129 36 (.slice none 0 0) 24 rfl Try.underlying129 info36p rfl Nat.one_pos (by omega) v331 y330 y319 [.slice Ao112 y319.length co112] (fun k_ => k_ ≠ g) (fun k_ => ((fun k_ => k_ ≠ g)) k_ ∧ some k_ ≠ (v331 : Value).ownBlock) rfl rfl ?aP (fun _ hk => hk) ?aF ?aO (Below.refl _ _) ?aS ?aL ?_; (case aP => exact (FK_own_mk (Kd.R_mono (ok' := (fun k_ => ((fun k_ => k_ ≠ g)) k_ ∧ some k_ ≠ (v331 : Value).ownBlock)) (IsS117.apart HI0.out (Kd.R_apart' (HO321.out) (Kd.N_typed HO332.out) (by decide)) (by decide)) (fun k_ hk => ⟨hk.2, hk.1.2⟩)))); (case aF => exact (fun k_ hk => IsS117.fresh (IsS117.below HI0.out lt_) k_ hk)); (case aO => exact (Kd.N_below (Kd.N_mono HO332.out (fun _ hk => hk.2)) lt_)); (case aS => exact (keep_size (w := w) (g := g) (row := none) (keep_at HK.out))); (case aL => have := LMc94.out; omega); intro v334 w111 ho hb hg hat; rw [← Ny333.out] at ho; replace HO_7 := mk_ (Kd.N_afterv (ok := (fun k_ => some k_ ≠ (.slice Ao112 y319.length co112 : Value).ownBlock ∧ k_ ≠ g)) (Kd.N_below HO_7.out lt_) hg hat); replace HI0 := mk_ (IsS117.grown (IsS117.below HI0.out lt_) hg (IsS117.own_neN HI0.out HO332.out (by decide))); replace HB := mk_ (below_weaken (below_at HB.out) HL.out hb); replace HK := mk_ (KeepBut.trans (keep_at HK.out) (KeepBut.of_grown hg g) (Kd.N_base2 HO332.out)); have HO335 := mk_ (ho); (try clear HL309_0 HL313_0 HO329 HO332 HO321); clear ho hb hg hat; have q113 : ((ji95) : Int) ≤ ((x7_2.length : Int) : Int) := oa_; obtain ⟨i0113, hi0113, _, hsz113, _⟩ := info_parts info36p; have hroom113 : x7_2.length ≤ co99 := (Kd.N_reads' HO_7.out).2.1; have hC113 : Kd.F (ownd 47 k47 w.heap.size) _ _ (some ad309) x7_2.length x7_2 := (Kd.V_at (base := w.heap.size) (Kd.N_V HO_7.out)).2.2; have q0113 : (0 : Int) ≤ ((ji95) : Int) := oa_; have hcut113 := cut_from (P := Try.prog) 129 36 .i64 Try.underlying129 hi0113 1 hsz113 (some ad309) x7_2.length co99 (ji95) q0113 q113; have hr113 := Kd.F_cut (m := ((ji95) : Int).toNat) (c := co99) hC113 (by omega) hroom113; obtain ⟨A113, hA113⟩ : ∃ A1, A1 = (if co99 = ((ji95) : Int).toNat then (some ad309) else ((some ad309) : Option Addr).map (·.add (((ji95) : Int).toNat * 1))) := ⟨_, rfl⟩; obtain ⟨c113, hc113⟩ : ∃ c1, c1 = co99 - ((ji95) : Int).toNat := ⟨_, rfl⟩; have hy113 : y336.length = x7_2.length - ((ji95) : Int).toNat := (by rw [Ny336.out, List.length_drop] <;> omega); rw [show (x7_2).drop ((ji95) : Int).toNat = y336 from Ny336.out.symm] at hr113; replace hr113 : Kd.F (ownd 47 k47 w.heap.size) _ _ A113 y336.length y336 := (by rw [hA113]; exact hr113); rw [← hy113, ← hA113, ← hc113] at hcut113; have HO340 := mk_ (show Kd.V (ownd 47 k47 w.heap.size) 36 _ w.heap.size _ (.slice A113 y336.length c113) y336 from Kd.V_mk (by rw [hy113, hc113]; exact Nat.sub_le_sub_right hroom113 _) hr113); have HC340 := mk_ (show y336.length ≤ c113 from by rw [hy113, hc113]; exact Nat.sub_le_sub_right hroom113 _); clear hr113 hC113 hroom113 hi0113 hsz113 hc113; have KY113 := mk_ hy113; have KA113 := mk_ hA113; clear hy113 hA113; replace q113 := eq_true q113) | ((with_reducible refine gate_builtin (b := .append) (xs := #[.tmp 101, .tmp 105]) rfl ?_); at_builtin; refine Kd.N_append_rows (ownd 47 k47 w.heap.size) w.heap.size rfl (.tmp 101) (.tmp 105) 129 36 (.slice none 0 0) 24 rfl Try.underlying129 info36p rfl Nat.one_pos (by omega) v334 y333 y336 _ _ _ (fun k_ => k_ ≠ g) (fun k_ => ((fun k_ => k_ ≠ g)) k_ ∧ some k_ ≠ (v334 : Value).ownBlock) rfl rfl ?aO ?aR (fun _ hk => hk) ?aF (Below.refl _ _) ?aS ?aL ?_; (case aR => exact (by skip; exact Kd.V_F (Kd.V_mono (ok' := (fun k_ => ((fun k_ => k_ ≠ g)) k_ ∧ some k_ ≠ (v334 : Value).ownBlock)) (HO340.out) (fun k_ hk => ⟨hk.1.2, hk.2⟩)))); (case aF => exact (fun k_ hk => IsS117.fresh (IsS117.below HI0.out lt_) k_ hk)); (case aO => exact (Kd.N_below HO335.out lt_)); (case aS => exact (keep_size (w := w) (g := g) (row := none) (keep_at HK.out))); (case aL => have := LMc98.out; omega); intro v342 w114 ho hb hg hat; rw [← Ny341.out] at ho; replace HI0 := mk_ (IsS117.grown (IsS117.below HI0.out lt_) hg (IsS117.own_neN HI0.out HO335.out (by decide))); replace HB := mk_ (below_weaken (below_at HB.out) HL.out hb); replace HK := mk_ (KeepBut.trans (keep_at HK.out) (KeepBut.of_grown hg g) (Kd.N_base2 HO335.out)); have HO343 := mk_ (ho); (try clear HO_7 HL309_0 HL313_0 HO329 HO340 HO335); clear ho hb hg hat))
    (try subst hji95)
    (try subst hji85)
    go_roundg k2
    case measure => have := HK1.out; have := HK2.out; omega
    case rel => exact ⟨(y341), (x9_2), (t318), sm_, H', ⟨by have := HK1.out; have := HK2.out; omega⟩, ⟨Kd.N_below HO343.out lt_⟩, ⟨IsS117.below HI0.out lt_⟩, ⟨keep_at HK.out⟩, ⟨below_at HB.out⟩⟩
   rw [if_pos c31] at H
   have c31b0 : decide (0 < x9_2) = true := decide_eq_true c31
   clear c31
   replace H := Option.bind_eq_some_iff.mp H
   obtain ⟨⟨t255, t256⟩, A320, H⟩ := H
   try dsimp only at H
   have A32 := mk_ A320
   clear A320
   by_cases c33 : t255 = 0
   ·rw [if_pos c33] at H
    have c33b0 : (t255 == 0) = true := beq_iff_eq.mpr c33
    have c33b1 : (t255 != 0) = false := bne_eq_false_iff_eq.mpr c33
    clear c33
    obtain ⟨y257, hy257⟩ : ∃ y_ : List (S47), y_ = (([] : List (S47))) := ⟨_, rfl⟩
    replace H : (if 0 ≤ t253 then (if t253 < (x7_2.length : Int) then (if y257.length + (rd_Lparts x7_2 t253).length < 8796093022208 then ((some (y257 ++ (rd_Lparts x7_2 t253) : List (S47))).bind fun y261 => (if y261.length < 8796093022208 then (spec_l20Term.l1 k2 a2 (x7_2.set (t253 : Int).toNat (y261 ++ [(⟨2, 0⟩ : S47)])) (wrap64 (x9_2 - 1)) s0_0 t256) else (none))) else (none)) else (none)) else (none)) = some (r1, r2) := by first | (rw [hy257]; exact H) | exact H
    have Ny257 := mk_ hy257
    clear hy257
    by_cases c34 : 0 ≤ t253
    rotate_left
    ·rw [if_neg c34] at H
     exact absurd H (by simp)
    rw [if_pos c34] at H
    have c34b0 : decide (0 ≤ t253) = true := decide_eq_true c34
    clear c34
    by_cases c35 : t253 < (x7_2.length : Int)
    rotate_left
    ·rw [if_neg c35] at H
     exact absurd H (by simp)
    rw [if_pos c35] at H
    have c35b0 : decide (t253 < (x7_2.length : Int)) = true := decide_eq_true c35
    clear c35
    by_cases c36 : y257.length + (rd_Lparts x7_2 t253).length < 8796093022208
    rotate_left
    ·rw [if_neg c36] at H
     exact absurd H (by simp)
    rw [if_pos c36] at H
    have LMc36 := mk_ c36
    clear c36
    obtain ⟨y261, hy261⟩ : ∃ y_ : List (S47), y_ = (y257 ++ (rd_Lparts x7_2 t253)) := ⟨_, rfl⟩
    first | (replace H := bn_ hy261 H; try dsimp only at H) | rw [← hy261] at H
    have Ny261 := mk_ hy261
    clear hy261
    by_cases c37 : y261.length < 8796093022208
    rotate_left
    ·rw [if_neg c37] at H
     exact absurd H (by simp)
    rw [if_pos c37] at H
    have LMc37 := mk_ c37
    clear c37
    obtain ⟨y264, hy264⟩ : ∃ y_ : List (S47), y_ = (y261 ++ [(⟨2, 0⟩ : S47)]) := ⟨_, rfl⟩
    first | (replace H := bn_ hy264 H; try dsimp only at H) | rw [← hy264] at H
    have Ny264 := mk_ hy264
    clear hy264
    obtain ⟨y267, hy267⟩ : ∃ y_ : List (List (S47)), y_ = (x7_2.set (t253 : Int).toNat y264) := ⟨_, rfl⟩
    first | (replace H := bn_ hy267 H; try dsimp only at H) | rw [← hy267] at H
    have Ny267 := mk_ hy267
    clear hy267
    have H' := mk_ H
    clear H
    obtain ⟨Ao39, co39, eo39⟩ := Kd.N_slice HO_7.out
    subst eo39
    go_wp2_with (first | ((with_reducible refine gate_callee (f := 60) rfl ?_); refine goesL_ (some 52) rfl rfl Try.func60 (by kernel_rfl) rfl #[.pointer (some ⟨g, 0, none⟩), .int .i64 (wrap64 ((x7_2.length : Int) - 1))] rfl gl_ ?_; (with_reducible refine (spec_l20Rd_pick.calls k2 g s0_0 x1001_2 (wrap64 ((x7_2.length : Int) - 1)) t253 t254 w0 _ ?side1 ?side2 A30.out).mono ?_); (case side1 => exact IsS117.below HI0.out lt_); (case side2 => exact below_at HB.out); rintro e w40 ⟨rfl, hi, hb, hk⟩; refine ⟨_, rfl, ?_⟩; replace HO_7 := mk_ (Kd.N_mono (Kd.N_keep (Kd.N_mono (ok := fun k_ => k_ ≠ g) (Kd.N_below HO_7.out lt_) (fun k_ hk_ => (⟨hk_, hk_⟩ : _ ∧ k_ ≠ g))) hk (fun _ h => h.2)) (fun _ h => h.1)); replace HK := mk_ (KeepBut.trans (keep_at HK.out) hk (.inl rfl)); replace HB := mk_ (hb); replace HI0 := mk_ (hi); (try clear hb)) | (go_at_call 60; (with_reducible refine (spec_l20Rd_pick.calls k2 g s0_0 t254 4 t255 t256 w0 _ ?side1 ?side2 A32.out).mono ?_); (case side1 => exact IsS117.below HI0.out lt_); (case side2 => exact below_at HB.out); rintro e w41 ⟨rfl, hi, hb, hk⟩; replace HO_7 := mk_ (Kd.N_mono (Kd.N_keep (Kd.N_mono (ok := fun k_ => k_ ≠ g) (Kd.N_below HO_7.out lt_) (fun k_ hk_ => (⟨hk_, hk_⟩ : _ ∧ k_ ≠ g))) hk (fun _ h => h.2)) (fun _ h => h.1)); replace HK := mk_ (KeepBut.trans (keep_at HK.out) hk (.inl rfl)); replace HB := mk_ (hb); replace HI0 := mk_ (hi); (try clear hb)) | ((with_reducible refine gate_dst (N := 64) rfl ?_); refine Kd.R_lit k47 _ 47 ?hg (N := 64) ?hd (xs := ([] : List (S47))) (inner := []) (ok := fun _ => True) (okp := fun _ => True) ?hr ?hp (fun _ hk => hk) trivial (Below.refl _ _) (Nat.le_refl _) (by simp) ?_; (case hd => rfl); (case hg => rfl); (case hr => first | (go_simp; done) | (go_simp; rfl)); (case hp => exact (Reps.none _ _)); intro v258 w42 ho43 hb hg_ hnew_; clear hg_ hnew_; (first | rw [← Ny257.out] at ho43 | (simp only [Int.reduceToNat] at ho43; rw [← Ny257.out] at ho43)); replace HO_7 := mk_ (Kd.N_elder' (Kd.N_below HO_7.out lt_) (Kd.R_base ho43) hb); have HO259 := mk_ (Kd.R_lower ho43 (keep_size (w := w) (g := g) (row := none) (keep_at HK.out))); replace HI0 := mk_ (IsS117.below (IsS117.below HI0.out lt_) hb); replace HK := mk_ (KeepBut.trans (keep_at HK.out) (KeepBut.of_below hb g none) (.inl rfl)); replace HB := mk_ (below_step (below_at HB.out) hb); clear hb ho43; have p260 : 0 ≤ (t253 : Int) := oa_; have q260 : t253 < (x7_2.length : Int) := oa_; obtain ⟨ad260, A260_0, c260_0, e260, hx260_0, hl260_0, hi260_0⟩ := at_Lparts (own_C (Kd.N_reads' HO_7.out).2.2) t253 p260 q260; cases e260; obtain ⟨ce260, hce260, hMe260, hcc260⟩ := Kd.N_get HO_7.out [] t253 p260 (by first | exact q260 | exact oa_ | (have e_ := (Kd.N_reads' HO_7.out).1; omega)); obtain ⟨ua260_0, uc260_0, rfl, ul260_0, ge260_0⟩ := FK_own_open hMe260; have hv260_0 := hcc260 0 _ rfl; rw [Nat.add_zero, show ((ownd 47 k47 w.heap.size)).sz = 1 from rfl, Nat.mul_one] at hv260_0; replace hv260_0 := Option.some.inj (hv260_0.symm.trans hx260_0); injection hv260_0 with hva_ hvn_ hvc_; rw [hva_] at ge260_0; rw [hvc_] at ul260_0; have HL260_0 := mk_ (show Kd.V k47 47 _ w.heap.size _ _ (rd_Lparts x7_2 t253) from Kd.V_mk ul260_0 ge260_0); clear hva_ hvn_ hvc_ ge260_0 ul260_0; clear hcc260 hce260; have HR260_0 := mk_ hi260_0; have HC260_0 := mk_ hl260_0; clear hi260_0 hl260_0; replace p260 := eq_true p260; replace q260 := eq_true q260) | ((with_reducible refine gate_builtin (b := .append) (xs := #[.tmp 64, .tmp 68]) rfl ?_); at_builtin; refine Kd.R_append_rows k47 w.heap.size rfl (.tmp 64) (.tmp 68) 36 47 (.agg #[(.int .i64 0), (.int .i64 0)]) 16 rfl Try.underlying36 info47p rfl (by decide) (by omega) v258 y257 (rd_Lparts x7_2 t253) _ _ _ (fun _ => True) (fun _ => False) rfl rfl ?aO ?aR (fun _ _ h => h) (fun _ h => h.elim) ?aF (Below.refl _ _) ?aS ?aL ?_; (case aR => repeat (first | exact (Kd.C_below HR260_0.out lt_) | (with_reducible refine Kd.C_alloc ?_ _) | (with_reducible refine Kd.C_drewN ?_ _) | (with_reducible refine Kd.C_drew ?_))); (case aF => exact (fun _ _ => trivial)); (case aO => exact (Kd.R_below HO259.out lt_)); (case aS => exact (keep_size (w := w) (g := g) (row := none) (keep_at HK.out))); (case aL => have := LMc36.out; omega); intro v262 w44 ho hb hg hat; rw [← Ny261.out] at ho; replace HO_7 := mk_ (Kd.N_afterv (ok := (fun k_ => k_ ≠ g)) (Kd.N_below HO_7.out lt_) hg hat); replace HI0 := mk_ (IsS117.grown (IsS117.below HI0.out lt_) hg (IsS117.own_ne HI0.out HO259.out (by decide))); replace HB := mk_ (below_weaken (below_at HB.out) HL.out hb); replace HK := mk_ (KeepBut.trans (keep_at HK.out) (KeepBut.of_grown hg g) (Kd.R_base2 HO259.out)); have HO263 := mk_ (ho); (try clear HL260_0 HO259); clear ho hb hg hat) | ((with_reducible refine gate_builtin (b := .append) (xs := #[.tmp 69, .tmp 71]) rfl ?_); at_builtin; refine Kd.R_append k47 w.heap.size rfl (.tmp 69) (.tmp 71) 36 47 (.agg #[(.int .i64 0), (.int .i64 0)]) 16 rfl Try.underlying36 info47p rfl (by decide) (by omega) v262 y261 (⟨2, 0⟩ : S47) [.int .i64 2, .int .i64 0] (fun _ => True) (fun _ => False) rfl rfl ?aP (fun _ hk => hk.elim) ?aF ?aO (Below.refl _ _) ?aS ?aL ?_; (case aP => exact k47_mkM _ _ _ (⟨2, 0⟩ : S47)); (case aF => exact (fun _ _ => trivial)); (case aO => exact (Kd.R_below HO263.out lt_)); (case aS => exact (keep_size (w := w) (g := g) (row := none) (keep_at HK.out))); (case aL => have := LMc37.out; omega); intro v265 w45 ho hb hg hat; rw [← Ny264.out] at ho; replace HO_7 := mk_ (Kd.N_afterv (ok := (fun k_ => k_ ≠ g)) (Kd.N_below HO_7.out lt_) hg hat); replace HI0 := mk_ (IsS117.grown (IsS117.below HI0.out lt_) hg (IsS117.own_ne HI0.out HO263.out (by decide))); replace HB := mk_ (below_weaken (below_at HB.out) HL.out hb); replace HK := mk_ (KeepBut.trans (keep_at HK.out) (KeepBut.of_grown hg g) (Kd.R_base2 HO263.out)); have HO266 := mk_ (ho); (try clear HL260_0 HO263); clear ho hb hg hat; have p38 : 0 ≤ (t253 : Int) := oa_; have q38 : (t253 : Int) < ((x7_2.length : Int) : Int) := oa_; obtain ⟨go38, co38, eo38, gb38, gl38, cl38, HG38⟩ := Kd.N_form HO_7.out (by omega); (first | cases eo38 | (injection eo38 with ea_ en_ ec_; (first | subst ea_ | (injection ea_ with ea_; subst ea_)); subst ec_; clear en_)); have GB38 := mk_ gb38; have GG38 := mk_ HG38; clear gb38 gl38 HG38; (first | simp only [add_plain] at hx260_0 | skip); obtain ⟨ce38, hcl38, hM38, hcc38, hfr38⟩ := Kd.N_elem HO_7.out [] (t253 : Int) p38 q38; obtain ⟨ua38_0, uc38_0, rfl, ul38_0, ge38_0⟩ := FK_own_open hM38; have hx38_0 := hcc38 0 _ rfl; have hf38_0 := hfr38 0; (try simp only [show ((ownd 47 k47 w.heap.size)).sz = 1 from rfl, Nat.mul_one, Nat.add_zero] at hx38_0); (try simp only [show ((ownd 47 k47 w.heap.size)).sz = 1 from rfl, Nat.mul_one, Nat.add_zero] at hf38_0); (try clear hM38); clear hcl38 hcc38 hfr38; replace p38 := eq_true p38; replace q38 := eq_true q38; have HX46 := mk_ (show Kd.N (ownd 47 k47 w.heap.size) 36 w45 w.heap.size (fun k_ => k_ ≠ g) (.slice (some ⟨go38, 0, none⟩) x7_2.length co39) x7_2 from (Kd.N_below (Kd.N_mono HO_7.out (fun _ hk => hk.1)) lt_)); obtain ⟨ce46, hcl46, hM46, hcc46, hfr46⟩ := Kd.N_elem HX46.out [] (t253 : Int) (oa_) (by have h_ : (t253 : Int) < ((x7_2.length : Int) : Int) := oa_; first | exact h_ | (have e_ := (Kd.N_reads' HO_7.out).1; omega) | simpa using h_); obtain ⟨ua46_0, uc46_0, rfl, ul46_0, ge46_0⟩ := FK_own_open hM46; have HP46 := Kd.N_seg HX46.out (t253 : Int) (oa_) (by have h_ : (t253 : Int) < ((x7_2.length : Int) : Int) := oa_; first | exact h_ | (have e_ := (Kd.N_reads' HO_7.out).1; omega) | simpa using h_) (seg := [v265]) (j := 0) hcl46 hcc46 (show 1 ≤ 1 from by decide) (x' := y264) (FK_own_mk (Kd.R_mono (ok' := (fun k_ => ((fun k_ => k_ ≠ g)) k_ ∧ k_ ≠ go38)) (IsS117.apart HI0.out (Kd.R_apart' (HO266.out) (Kd.N_typed HO_7.out) (by decide)) (by decide)) (fun k_ hk => ⟨hk.2, fun e_ => (hk.1.2) (by rw [e_]; rfl)⟩))) (fun _ hk => hk); have hx46_0 := hcc46 0 _ rfl; (try simp only [show ((ownd 47 k47 w.heap.size)).sz = 1 from rfl, Nat.mul_one, Nat.add_zero] at hx46_0); have hf46_0 := hfr46 0; (try simp only [show ((ownd 47 k47 w.heap.size)).sz = 1 from rfl, Nat.mul_one, Nat.add_zero] at hf46_0); (try clear hM46); clear hcl46 hcc46 hfr46; (try simp only [show ((ownd 47 k47 w.heap.size)).sz = 1 from rfl, Nat.mul_one, Nat.add_zero] at HP46); (try simp only [show ((ownd 47 k47 w.heap.size)).sz = 1 from rfl, Nat.mul_one, Nat.add_zero] at HP46)) | ((with_reducible refine gate_store (t := 36) (p := 73) rfl ?_); refine store_event (t := 36) (p := 73) (v := ?vo_w47) (w1 := (w45.setCell ⟨go38, (t253 : Int).toNat, none⟩ (v265))) ?hg ?ho ?hn ?hr ?_; (case ho => rfl); (case hg => rfl); (case hn => rfl); (case hr => first | (go_simp; done) | (go_simp; rfl) | (obtain ⟨_, _, e_⟩ := Kd.R_slice HO266.out; subst e_; first | (go_simp; done) | (go_simp; rfl))); intro w47 hw; have hg : w45.grownBy w47 (some go38) := (by rw [hw]; exact HP46.2); have hp_ : Kd.N (ownd 47 k47 w.heap.size) 36 w47 w.heap.size (fun k_ => k_ ≠ g) (.slice (some ⟨go38, 0, none⟩) x7_2.length co39) y267 := (by rw [hw, Ny267.out]; exact HP46.1); clear HP46; replace HI0 := mk_ (IsS117.grown (IsS117.below HI0.out lt_) hg (IsS117.own_neN HI0.out HO_7.out (by decide))); replace HB := mk_ ((by rw [hw]; exact below_set (HB.out) (Nat.le_trans HL.out GB38.out) : Below w0.heap.size w0 w47)); replace HK := mk_ (KeepBut.trans (keep_at HK.out) (KeepBut.of_grown hg g) (Kd.N_base2 HO_7.out)); replace HO_7 := mk_ (hp_); (try clear HL260_0 HO266); clear hg hw hp_))
    go_roundg k2
    case measure => have := HK1.out; have := HK2.out; omega
    case rel => exact ⟨(y267), (wrap64 (x9_2 - 1)), (t256), sm_, H', ⟨by have := HK1.out; have := HK2.out; omega⟩, ⟨Kd.N_below HO_7.out lt_⟩, ⟨IsS117.below HI0.out lt_⟩, ⟨keep_at HK.out⟩, ⟨below_at HB.out⟩⟩
   rw [if_neg c33] at H
   have c33b0 : (t255 == 0) = false := beq_eq_false_iff_ne.mpr c33
   have c33b1 : (t255 != 0) = true := bne_iff_ne.mpr c33
   obtain ⟨y268, hy268⟩ : ∃ y_ : List (S47), y_ = (([] : List (S47))) := ⟨_, rfl⟩
   replace H : (if 0 ≤ t253 then (if t253 < (x7_2.length : Int) then (if y268.length + (rd_Lparts x7_2 t253).length < 8796093022208 then ((some (y268 ++ (rd_Lparts x7_2 t253) : List (S47))).bind fun y272 => (if 0 ≤ (wrap64 (t253 + 1)) then (if (wrap64 (t253 + 1)) < (x7_2.length : Int) then (if y272.length + (rd_Lparts x7_2 (wrap64 (t253 + 1))).length < 8796093022208 then ((some (y272 ++ (rd_Lparts x7_2 (wrap64 (t253 + 1))) : List (S47))).bind fun y276 => ((spec_l20Rd_pick.f k2 s0_0 t256 3).bind fun bt279 => (if y276.length < 8796093022208 then ((some (([] : List (List (S47))) : List (List (S47)))).bind fun y284 => (if t253 ≤ (x7_2.length : Int) then ((some (x7_2.take (t253 : Int).toNat : List (List (S47)))).bind fun y287 => (if y284.length + y287.length < 5864062014805 then ((some (y284 ++ y287 : List (List (S47)))).bind fun y292 => (if y292.length < 5864062014805 then ((some (y292 ++ [(y276 ++ [(⟨wrap64 (3 + bt279.1), 0⟩ : S47)])] : List (List (S47)))).bind fun y295 => (if 0 ≤ (wrap64 (t253 + 2)) then (if (wrap64 (t253 + 2)) ≤ (x7_2.length : Int) then ((some (x7_2.drop ((wrap64 (t253 + 2)) : Int).toNat : List (List (S47)))).bind fun y298 => (if y295.length + y298.length < 5864062014805 then (spec_l20Term.l1 k2 a2 (y295 ++ y298) x9_2 s0_0 bt279.2) else (none))) else (none)) else (none))) else (none))) else (none))) else (none))) else (none)))) else (none)) else (none)) else (none))) else (none)) else (none)) else (none)) = some (r1, r2) := by first | (rw [hy268]; exact H) | exact H
   have Ny268 := mk_ hy268
   clear hy268
   by_cases c48 : 0 ≤ t253
   rotate_left
   ·rw [if_neg c48] at H
    exact absurd H (by simp)
   rw [if_pos c48] at H
   have c48b0 : decide (0 ≤ t253) = true := decide_eq_true c48
   clear c48
   by_cases c49 : t253 < (x7_2.length : Int)
   rotate_left
   ·rw [if_neg c49] at H
    exact absurd H (by simp)
   rw [if_pos c49] at H
   have c49b0 : decide (t253 < (x7_2.length : Int)) = true := decide_eq_true c49
   clear c49
   by_cases c50 : y268.length + (rd_Lparts x7_2 t253).length < 8796093022208
   rotate_left
   ·rw [if_neg c50] at H
    exact absurd H (by simp)
   rw [if_pos c50] at H
   have LMc50 := mk_ c50
   clear c50
   obtain ⟨y272, hy272⟩ : ∃ y_ : List (S47), y_ = (y268 ++ (rd_Lparts x7_2 t253)) := ⟨_, rfl⟩
   first | (replace H := bn_ hy272 H; try dsimp only at H) | rw [← hy272] at H
   have Ny272 := mk_ hy272
   clear hy272
   obtain ⟨ji51, hji51⟩ : ∃ j_ : Int, (wrap64 (t253 + 1)) = j_ := ⟨_, rfl⟩
   first | rw [hji51] at H | simp only [hji51] at H
   (try rw [hji51] at A30)
   (try rw [hji51] at A32)
   have hji51w : (IntKind.i64.wrap (t253 + 1)) = ji51 := (i64_w _).trans hji51
   by_cases c52 : 0 ≤ (ji51)
   rotate_left
   ·rw [if_neg c52] at H
    exact absurd H (by simp)
   rw [if_pos c52] at H
   have c52b0 : decide (0 ≤ (ji51)) = true := decide_eq_true c52
   clear c52
   by_cases c53 : (ji51) < (x7_2.length : Int)
   rotate_left
   ·rw [if_neg c53] at H
    exact absurd H (by simp)
   rw [if_pos c53] at H
   have c53b0 : decide ((ji51) < (x7_2.length : Int)) = true := decide_eq_true c53
   clear c53
   by_cases c54 : y272.length + (rd_Lparts x7_2 (ji51)).length < 8796093022208
   rotate_left
   ·rw [if_neg c54] at H
    exact absurd H (by simp)
   rw [if_pos c54] at H
   have LMc54 := mk_ c54
   clear c54
   obtain ⟨y276, hy276⟩ : ∃ y_ : List (S47), y_ = (y272 ++ (rd_Lparts x7_2 (ji51))) := ⟨_, rfl⟩
   first | (replace H := bn_ hy276 H; try dsimp only at H) | rw [← hy276] at H
   have Ny276 := mk_ hy276
   clear hy276
   replace H := Option.bind_eq_some_iff.mp H
   obtain ⟨⟨t279, t280⟩, A550, H⟩ := H
   try dsimp only at H
   have A55 := mk_ A550
   clear A550
   by_cases c56 : y276.length < 8796093022208
   rotate_left
   ·rw [if_neg c56] at H
    exact absurd H (by simp)
   rw [if_pos c56] at H
   have LMc56 := mk_ c56
   clear c56
   obtain ⟨y281, hy281⟩ : ∃ y_ : List (S47), y_ = (y276 ++ [(⟨wrap64 (3 + t279), 0⟩ : S47)]) := ⟨_, rfl⟩
   first | (replace H := bn_ hy281 H; try dsimp only at H) | rw [← hy281] at H
   have Ny281 := mk_ hy281
   clear hy281
   obtain ⟨y284, hy284⟩ : ∃ y_ : List (List (S47)), y_ = (([] : List (List (S47)))) := ⟨_, rfl⟩
   replace H : (if t253 ≤ (x7_2.length : Int) then ((some (x7_2.take (t253 : Int).toNat : List (List (S47)))).bind fun y287 => (if y284.length + y287.length < 5864062014805 then ((some (y284 ++ y287 : List (List (S47)))).bind fun y292 => (if y292.length < 5864062014805 then ((some (y292 ++ [y281] : List (List (S47)))).bind fun y295 => (if 0 ≤ (wrap64 (t253 + 2)) then (if (wrap64 (t253 + 2)) ≤ (x7_2.length : Int) then ((some (x7_2.drop ((wrap64 (t253 + 2)) : Int).toNat : List (List (S47)))).bind fun y298 => (if y295.length + y298.length < 5864062014805 then (spec_l20Term.l1 k2 a2 (y295 ++ y298) x9_2 s0_0 t280) else (none))) else (none)) else (none))) else (none))) else (none))) else (none)) = some (r1, r2) := by first | (rw [hy284]; exact H) | exact H
   have Ny284 := mk_ hy284
   clear hy284
   have c57b0 := eq_true (oa_ : 0 ≤ t253)
   by_cases c58 : t253 ≤ (x7_2.length : Int)
   rotate_left
   ·rw [if_neg c58] at H
    exact absurd H (by simp)
   rw [if_pos c58] at H
   have c58b0 := eq_true c58
   have c58b1 : decide (t253 ≤ (x7_2.length : Int)) = true := decide_eq_true c58
   clear c58
   obtain ⟨y287, hy287⟩ : ∃ y_ : List (List (S47)), y_ = (x7_2.take (t253 : Int).toNat) := ⟨_, rfl⟩
   first | (replace H := bn_ hy287 H; try dsimp only at H) | rw [← hy287] at H
   have Ny287 := mk_ hy287
   clear hy287
   by_cases c59 : y284.length + y287.length < 5864062014805
   rotate_left
   ·rw [if_neg c59] at H
    exact absurd H (by simp)
   rw [if_pos c59] at H
   have LMc59 := mk_ c59
   clear c59
   obtain ⟨y292, hy292⟩ : ∃ y_ : List (List (S47)), y_ = (y284 ++ y287) := ⟨_, rfl⟩
   first | (replace H := bn_ hy292 H; try dsimp only at H) | rw [← hy292] at H
   have Ny292 := mk_ hy292
   clear hy292
   by_cases c60 : y292.length < 5864062014805
   rotate_left
   ·rw [if_neg c60] at H
    exact absurd H (by simp)
   rw [if_pos c60] at H
   have LMc60 := mk_ c60
   clear c60
   obtain ⟨y295, hy295⟩ : ∃ y_ : List (List (S47)), y_ = (y292 ++ [y281]) := ⟨_, rfl⟩
   first | (replace H := bn_ hy295 H; try dsimp only at H) | rw [← hy295] at H
   have Ny295 := mk_ hy295
   clear hy295
   obtain ⟨ji61, hji61⟩ : ∃ j_ : Int, (wrap64 (t253 + 2)) = j_ := ⟨_, rfl⟩
   first | rw [hji61] at H | simp only [hji61] at H
   (try rw [hji61] at A30)
   (try rw [hji61] at A32)
   (try rw [hji61] at A55)
   have hji61w : (IntKind.i64.wrap (t253 + 2)) = ji61 := (i64_w _).trans hji61
   by_cases c62 : 0 ≤ (ji61)
   rotate_left
   ·rw [if_neg c62] at H
    exact absurd H (by simp)
   rw [if_pos c62] at H
   have c62b0 := eq_true c62
   have c62b1 : decide (0 ≤ (ji61)) = true := decide_eq_true c62
   clear c62
   by_cases c63 : (ji61) ≤ (x7_2.length : Int)
   rotate_left
   ·rw [if_neg c63] at H
    exact absurd H (by simp)
   rw [if_pos c63] at H
   have c63b0 := eq_true c63
   have c63b1 : decide ((ji61) ≤ (x7_2.length : Int)) = true := decide_eq_true c63
   clear c63
   obtain ⟨y298, hy298⟩ : ∃ y_ : List (List (S47)), y_ = (x7_2.drop ((ji61) : Int).toNat) := ⟨_, rfl⟩
   first | (replace H := bn_ hy298 H; try dsimp only at H) | rw [← hy298] at H
   have Ny298 := mk_ hy298
   clear hy298
   by_cases c64 : y295.length + y298.length < 5864062014805
   rotate_left
   ·rw [if_neg c64] at H
    exact absurd H (by simp)
   rw [if_pos c64] at H
   have LMc64 := mk_ c64
   clear c64
   obtain ⟨y303, hy303⟩ : ∃ y_ : List (List (S47)), y_ = (y295 ++ y298) := ⟨_, rfl⟩
   first | (replace H := bn_ hy303 H; try dsimp only at H) | rw [← hy303] at H
   have Ny303 := mk_ hy303
   clear hy303
   have H' := mk_ H
   clear H
   obtain ⟨Ao65, co65, eo65⟩ := Kd.N_slice HO_7.out
   subst eo65
   go_wp2_with (first | ((with_reducible refine gate_callee (f := 60) rfl ?_); refine goesL_ (some 52) rfl rfl Try.func60 (by kernel_rfl) rfl #[.pointer (some ⟨g, 0, none⟩), .int .i64 (wrap64 ((x7_2.length : Int) - 1))] rfl gl_ ?_; (with_reducible refine (spec_l20Rd_pick.calls k2 g s0_0 x1001_2 (wrap64 ((x7_2.length : Int) - 1)) t253 t254 w0 _ ?side1 ?side2 A30.out).mono ?_); (case side1 => exact IsS117.below HI0.out lt_); (case side2 => exact below_at HB.out); rintro e w66 ⟨rfl, hi, hb, hk⟩; refine ⟨_, rfl, ?_⟩; replace HO_7 := mk_ (Kd.N_mono (Kd.N_keep (Kd.N_mono (ok := fun k_ => k_ ≠ g) (Kd.N_below HO_7.out lt_) (fun k_ hk_ => (⟨hk_, hk_⟩ : _ ∧ k_ ≠ g))) hk (fun _ h => h.2)) (fun _ h => h.1)); replace HK := mk_ (KeepBut.trans (keep_at HK.out) hk (.inl rfl)); replace HB := mk_ (hb); replace HI0 := mk_ (hi); (try clear hb)) | (go_at_call 60; (with_reducible refine (spec_l20Rd_pick.calls k2 g s0_0 t254 4 t255 t256 w0 _ ?side1 ?side2 A32.out).mono ?_); (case side1 => exact IsS117.below HI0.out lt_); (case side2 => exact below_at HB.out); rintro e w67 ⟨rfl, hi, hb, hk⟩; replace HO_7 := mk_ (Kd.N_mono (Kd.N_keep (Kd.N_mono (ok := fun k_ => k_ ≠ g) (Kd.N_below HO_7.out lt_) (fun k_ hk_ => (⟨hk_, hk_⟩ : _ ∧ k_ ≠ g))) hk (fun _ h => h.2)) (fun _ h => h.1)); replace HK := mk_ (KeepBut.trans (keep_at HK.out) hk (.inl rfl)); replace HB := mk_ (hb); replace HI0 := mk_ (hi); (try clear hb)))
   replace HO_7 := mk_ (Kd.N_drew HO_7.out)
   replace HI0 := mk_ (IsS117.drew HI0.out)
   replace HK := mk_ (keep_drew HK.out)
   replace HB := mk_ (below_drew1 HB.out)
   have p271 : 0 ≤ (t253 : Int) := oa_
   have q271 : t253 < (x7_2.length : Int) := oa_
   obtain ⟨ad271, A271_0, c271_0, e271, hx271_0, hl271_0, hi271_0⟩ := at_Lparts (own_C (Kd.N_reads' HO_7.out).2.2) t253 p271 q271
   cases e271
   obtain ⟨ce271, hce271, hMe271, hcc271⟩ := Kd.N_get HO_7.out [] t253 p271 (by first | exact q271 | exact oa_ | (have e_ := (Kd.N_reads' HO_7.out).1; omega))
   obtain ⟨ua271_0, uc271_0, rfl, ul271_0, ge271_0⟩ := FK_own_open hMe271
   have hv271_0 := hcc271 0 _ rfl
   rw [Nat.add_zero, show ((ownd 47 k47 w.heap.size)).sz = 1 from rfl, Nat.mul_one] at hv271_0
   replace hv271_0 := Option.some.inj (hv271_0.symm.trans hx271_0)
   injection hv271_0 with hva_ hvn_ hvc_
   rw [hva_] at ge271_0
   rw [hvc_] at ul271_0
   have HL271_0 := mk_ (show Kd.V k47 47 _ w.heap.size _ _ (rd_Lparts x7_2 t253) from Kd.V_mk ul271_0 ge271_0)
   clear hva_ hvn_ hvc_ ge271_0 ul271_0
   clear hcc271 hce271
   have HR271_0 := mk_ hi271_0
   have HC271_0 := mk_ hl271_0
   clear hi271_0 hl271_0
   replace p271 := eq_true p271
   replace q271 := eq_true q271
   have p275 : 0 ≤ ((ji51) : Int) := oa_
   have q275 : (ji51) < (x7_2.length : Int) := oa_
   obtain ⟨ad275, A275_0, c275_0, e275, hx275_0, hl275_0, hi275_0⟩ := at_Lparts (own_C (Kd.N_reads' HO_7.out).2.2) (ji51) p275 q275
   obtain rfl : ad271 = ad275 := (by injection e275)
   obtain ⟨ce275, hce275, hMe275, hcc275⟩ := Kd.N_get HO_7.out [] (ji51) p275 (by first | exact q275 | exact oa_ | (have e_ := (Kd.N_reads' HO_7.out).1; omega))
   obtain ⟨ua275_0, uc275_0, rfl, ul275_0, ge275_0⟩ := FK_own_open hMe275
   have hv275_0 := hcc275 0 _ rfl
   rw [Nat.add_zero, show ((ownd 47 k47 w.heap.size)).sz = 1 from rfl, Nat.mul_one] at hv275_0
   replace hv275_0 := Option.some.inj (hv275_0.symm.trans hx275_0)
   injection hv275_0 with hva_ hvn_ hvc_
   rw [hva_] at ge275_0
   rw [hvc_] at ul275_0
   have HL275_0 := mk_ (show Kd.V k47 47 _ w.heap.size _ _ (rd_Lparts x7_2 (ji51)) from Kd.V_mk ul275_0 ge275_0)
   clear hva_ hvn_ hvc_ ge275_0 ul275_0
   clear hcc275 hce275
   have HR275_0 := mk_ hi275_0
   have HC275_0 := mk_ hl275_0
   clear hi275_0 hl275_0
   replace p275 := eq_true p275
   replace q275 := eq_true q275
   refine start_ (n := 19) (S := fun w' => w'.cell? (ad271.add (t253).toNat) = some (.slice A271_0 (rd_Lparts x7_2 t253).length c271_0) ∧ w'.cell? (ad271.add ((ji51)).toNat) = some (.slice A275_0 (rd_Lparts x7_2 (ji51)).length c275_0)) (ds := [11, 13, 16, 17]) #[false, false, false, false, false, false, false, false, false, false, false, false, false, false, false, false, false, false, false] (by kernel_rfl) rfl rfl ⟨hx271_0, hx275_0⟩ (fun hHeld => ?_)
   generalize w67.drew = wd_ at HO_7 HI0 HK HB HL271_0 HL275_0 HR271_0 HR275_0 hx271_0 hx275_0 hHeld ⊢
   refine pur_ 1 (some 75) #[false, true, false, false, false, false, false, false, false, false, false, false, false, false, false, false, false, false, false] (by kernel_rfl) ?_
   refine pur_ 2 (some 76) #[false, true, true, false, false, false, false, false, false, false, false, false, false, false, false, false, false, false, false] (by kernel_rfl) ?_
   refine pur_ 3 (some 77) #[false, true, true, true, false, false, false, false, false, false, false, false, false, false, false, false, false, false, false] (by kernel_rfl) ?_
   refine pur_ 6 (some 80) #[false, true, true, true, false, false, true, false, false, false, false, false, false, false, false, false, false, false, false] (by kernel_rfl) ?_
   refine pur_ 7 (some 81) #[false, true, true, true, false, false, true, true, false, false, false, false, false, false, false, false, false, false, false] (by kernel_rfl) ?_
   refine pur_ 8 (some 82) #[false, true, true, true, false, false, true, true, true, false, false, false, false, false, false, false, false, false, false] (by kernel_rfl) ?_
   refine pur_ 9 (some 83) #[false, true, true, true, false, false, true, true, true, true, false, false, false, false, false, false, false, false, false] (by kernel_rfl) ?_
   refine pur_ 12 (some 86) #[false, true, true, true, false, false, true, true, true, true, false, false, true, false, false, false, false, false, false] (by kernel_rfl) ?_
   refine tak_ 4 (some 78) #[false, true, true, true, true, false, true, true, true, true, false, false, true, false, false, false, false, false, false] (by kernel_rfl) hHeld ?_
   refine tak_ 10 (some 84) #[false, true, true, true, true, false, true, true, true, true, true, false, true, false, false, false, false, false, false] (by kernel_rfl) hHeld ?_
   refine one_ (i := 0) (N := some 74) #[true, true, true, true, true, false, true, true, true, true, true, false, true, false, false, false, false, false, false] rfl rfl (by kernel_rfl) (by decide) (fun K hK => ?_)
   refine Kd.R_lit_step k47 _ 47 (by rfl) (N := 74) rfl (xs := ([] : List (S47))) (inner := []) (ok := fun _ => True) (okp := fun _ => True) ?hr ?hp (fun _ hk => hk) trivial (Below.refl _ _) (Nat.le_refl _) (by simp) ?_
   (case hr => first | (go_simp; done) | (go_simp; rfl))
   (case hp => exact (Reps.none _ _))
   intro v269 w68 ho69 hb hg_ hnew_
   clear hg_ hnew_
   (first | rw [← Ny268.out] at ho69 | (simp only [Int.reduceToNat] at ho69; rw [← Ny268.out] at ho69))
   have nl1_ := mk_ (Kd.V_elder' HL271_0.out (Kd.R_base ho69) hb)
   have nl2_ := mk_ (Kd.V_elder' HL275_0.out (Kd.R_base ho69) hb)
   have ns1_ := cell_old hHeld.1 hb
   have ns2_ := cell_old hHeld.2 hb
   clear HL271_0
   clear HL275_0
   clear hHeld
   have HL271_0 := nl1_
   have HL275_0 := nl2_
   clear nl1_ nl2_
   replace HO_7 := mk_ (Kd.N_elder' (Kd.N_below HO_7.out lt_) (Kd.R_base ho69) hb)
   have HO270 := mk_ (Kd.R_lower ho69 (keep_size (w := w) (g := g) (row := none) (keep_at HK.out)))
   replace HI0 := mk_ (IsS117.below (IsS117.below HI0.out lt_) hb)
   replace HK := mk_ (KeepBut.trans (keep_at HK.out) (KeepBut.of_below hb g none) (.inl rfl))
   replace HB := mk_ (below_step (below_at HB.out) hb)
   clear hb ho69
   refine hK.out _ _ ⟨ns1_, ns2_⟩ (fun hHeld => ?_)
   clear hK K
   refine nor_ (some 74) ?_
   clear ns1_ ns2_
   refine one_ (i := 5) (N := some 79) #[true, true, true, true, true, true, true, true, true, true, true, false, true, false, false, false, false, false, false] rfl rfl (by kernel_rfl) (by decide) (fun K hK => ?_)
   refine Kd.R_append_rows_step k47 w.heap.size (by rfl) (.tmp 74) (.tmp 78) 36 47 (.agg #[(.int .i64 0), (.int .i64 0)]) 16 rfl Try.underlying36 info47p rfl (by decide) (by omega) v269 y268 (rd_Lparts x7_2 t253) _ _ _ (fun _ => True) (fun _ => False) rfl rfl ?aO ?aR (fun _ _ h => h) (fun _ h => h.elim) ?aF (Below.refl _ _) ?aS ?aL ?_
   (case aR => exact Kd.F_now (Kd.V_F HL271_0.out))
   (case aF => exact (fun _ _ => trivial))
   (case aO => exact (Kd.R_below HO270.out lt_))
   (case aS => exact (keep_size (w := w) (g := g) (row := none) (keep_at HK.out)))
   (case aL => have := LMc50.out; omega)
   intro v273 w70 ho hb hg hat
   rw [← Ny272.out] at ho
   have ns1_ := cell_apart hHeld.1 hg (HO_7.out.1 _ rfl).2
   have ns2_ := cell_apart hHeld.2 hg (HO_7.out.1 _ rfl).2
   clear hHeld
   have n0_ := mk_ (Kd.N_afterv (ok := (fun k_ => k_ ≠ g)) (Kd.N_below HO_7.out lt_) hg hat)
   have n1_ := mk_ (IsS117.grown (IsS117.below HI0.out lt_) hg (IsS117.own_ne HI0.out HO270.out (by decide)))
   have n2_ := mk_ (Kd.V_afterv (ok := (fun k_ => some k_ ≠ (.slice (some ad271) x7_2.length co65 : Value).ownBlock ∧ k_ ≠ g)) (Kd.V_mono HL271_0.out (fun _ hk => ⟨⟨hk.1.2, hk.1.1⟩, hk.2⟩)) hg hat)
   have nl2_ := mk_ (Kd.V_afterv (ok := (fun k_ => some k_ ≠ (.slice (some ad271) x7_2.length co65 : Value).ownBlock ∧ k_ ≠ g)) (Kd.V_mono HL275_0.out (fun _ hk => ⟨⟨hk.1.2, hk.1.1⟩, hk.2⟩)) hg hat)
   have n3_ := mk_ (below_weaken (below_at HB.out) HL.out hb)
   have n4_ := mk_ (KeepBut.trans (keep_at HK.out) (KeepBut.of_grown hg g) (Kd.R_base2 HO270.out))
   have n5_ := mk_ (ho)
   clear HO_7
   clear HI0
   clear HL271_0
   clear HL275_0
   have HL275_0 := nl2_
   clear nl2_
   clear HB
   clear HK
   clear HO270
   have HO_7 := n0_
   have HI0 := n1_
   have HL271_0 := n2_
   have HB := n3_
   have HK := n4_
   have HO274 := n5_
   clear n0_ n1_ n2_ n3_ n4_ n5_
   clear ho hb hg hat
   refine hK.out _ _ ⟨ns1_, ns2_⟩ (fun hHeld => ?_)
   clear hK K
   refine nor_ (some 79) ?_
   clear ns1_ ns2_
   refine last_ (i := 11) (N := some 85) #[true, true, true, true, true, true, true, true, true, true, true, true, true, false, false, false, false, false, false] rfl rfl (by kernel_rfl) (by decide) (fun K hK => ?_)
   refine Kd.R_append_rows_step k47 w.heap.size (by rfl) (.tmp 79) (.tmp 84) 36 47 (.agg #[(.int .i64 0), (.int .i64 0)]) 16 rfl Try.underlying36 info47p rfl (by decide) (by omega) v273 y272 (rd_Lparts x7_2 (ji51)) _ _ _ (fun _ => True) (fun _ => False) rfl rfl ?aO ?aR (fun _ _ h => h) (fun _ h => h.elim) ?aF (Below.refl _ _) ?aS ?aL ?_
   (case aR => exact Kd.F_now (Kd.V_F HL275_0.out))
   (case aF => exact (fun _ _ => trivial))
   (case aO => exact (Kd.R_below HO274.out lt_))
   (case aS => exact (keep_size (w := w) (g := g) (row := none) (keep_at HK.out)))
   (case aL => have := LMc54.out; omega)
   intro v277 w71 ho hb hg hat
   rw [← Ny276.out] at ho
   replace HO_7 := mk_ (Kd.N_afterv (ok := (fun k_ => k_ ≠ g)) (Kd.N_below HO_7.out lt_) hg hat)
   replace HI0 := mk_ (IsS117.grown (IsS117.below HI0.out lt_) hg (IsS117.own_ne HI0.out HO274.out (by decide)))
   replace HB := mk_ (below_weaken (below_at HB.out) HL.out hb)
   replace HK := mk_ (KeepBut.trans (keep_at HK.out) (KeepBut.of_grown hg g) (Kd.R_base2 HO274.out))
   have HO278 := mk_ (ho)
   (try clear HL271_0 HL275_0 HO274)
   clear ho hb hg hat
   refine hK.out _ _ ?_
   clear hK K
   refine nor_ (some 85) ?_
   refine last_ (i := 13) (N := some 87) #[true, true, true, true, true, true, true, true, true, true, true, true, true, true, false, false, false, false, false] rfl rfl (by kernel_rfl) (by decide) (fun K hK => ?_)
   refine goes_ Try.func60 (by kernel_rfl) rfl #[.pointer (some ⟨g, 0, none⟩), .int .i64 3] (by rfl) rfl rfl gl_ ?_
   (with_reducible refine (spec_l20Rd_pick.calls k2 g s0_0 t256 3 t279 t280 w0 _ ?side1 ?side2 A55.out).mono ?_)
   (case side1 => exact IsS117.below HI0.out lt_)
   (case side2 => exact below_at HB.out)
   rintro e w72 ⟨rfl, hi, hb, hk⟩
   refine ⟨_, rfl, ?_⟩
   replace HO_7 := mk_ (Kd.N_mono (Kd.N_keep (Kd.N_mono (ok := fun k_ => (k_ ≠ g ∧ some k_ ≠ (v277 : Value).ownBlock)) (Kd.N_below HO_7.out lt_) (fun k_ hk_ => (⟨hk_, hk_.1⟩ : _ ∧ k_ ≠ g))) hk (fun _ h => h.2)) (fun _ h => h.1))
   replace HO278 := mk_ (Kd.R_mono (Kd.R_keep (IsS117.apart (show IsS117 w0 _ g s0_0 t256 from IsS117.below HI0.out lt_) (Kd.R_below HO278.out lt_) (by decide)) hk (fun _ h => h.2)) (fun _ h => h.1))
   replace HK := mk_ (KeepBut.trans (keep_at HK.out) hk (.inl rfl))
   replace HB := mk_ (hb)
   replace HI0 := mk_ (hi)
   (try clear HL271_0 HL275_0)
   (try clear hb)
   (try clear hb2)
   (try clear hk)
   (try clear hi)
   refine hK.out _ _ ?_
   clear hK K
   refine nor_ (some 87) ?_
   refine pur_ 14 (some 88) #[true, true, true, true, true, true, true, true, true, true, true, true, true, true, true, false, false, false, false] (by kernel_rfl) ?_
   refine pur_ 15 (some 89) #[true, true, true, true, true, true, true, true, true, true, true, true, true, true, true, true, false, false, false] (by kernel_rfl) ?_
   refine last_ (i := 16) (N := some 90) #[true, true, true, true, true, true, true, true, true, true, true, true, true, true, true, true, true, false, false] rfl rfl (by kernel_rfl) (by decide) (fun K hK => ?_)
   refine value_ (w1 := ?_) (v := ?_) (by rfl) rfl ?_ ?_
   rotate_left 2
   ·go_simp
    constructor
    ·rfl
    rfl
   refine hK.out _ _ ?_
   clear hK K
   refine nor_ (some 90) ?_
   refine last_ (i := 17) (N := some 91) #[true, true, true, true, true, true, true, true, true, true, true, true, true, true, true, true, true, true, false] rfl rfl (by kernel_rfl) (by decide) (fun K hK => ?_)
   refine Kd.R_append_step k47 w.heap.size (by rfl) (.tmp 85) (.tmp 90) 36 47 (.agg #[(.int .i64 0), (.int .i64 0)]) 16 rfl Try.underlying36 info47p rfl (by decide) (by omega) v277 y276 (⟨wrap64 (3 + t279), 0⟩ : S47) [.int .i64 (wrap64 (3 + t279)), .int .i64 0] (fun _ => True) (fun _ => False) rfl rfl ?aP (fun _ hk => hk.elim) ?aF ?aO (Below.refl _ _) ?aS ?aL ?_
   (case aP => exact k47_mkM _ _ _ (⟨wrap64 (3 + t279), 0⟩ : S47))
   (case aF => exact (fun _ _ => trivial))
   (case aO => exact (Kd.R_below HO278.out lt_))
   (case aS => exact (keep_size (w := w) (g := g) (row := none) (keep_at HK.out)))
   (case aL => have := LMc56.out; omega)
   intro v282 w73 ho hb hg hat
   rw [← Ny281.out] at ho
   replace HO_7 := mk_ (Kd.N_afterv (ok := (fun k_ => k_ ≠ g)) (Kd.N_below HO_7.out lt_) hg hat)
   replace HI0 := mk_ (IsS117.grown (IsS117.below HI0.out lt_) hg (IsS117.own_ne HI0.out HO278.out (by decide)))
   replace HB := mk_ (below_weaken (below_at HB.out) HL.out hb)
   replace HK := mk_ (KeepBut.trans (keep_at HK.out) (KeepBut.of_grown hg g) (Kd.R_base2 HO278.out))
   have HO283 := mk_ (ho)
   (try clear HL271_0 HL275_0 HO278)
   clear ho hb hg hat
   refine hK.out _ _ ?_
   clear hK K
   refine nor_ (some 91) ?_
   refine pur_ 18 (some 11) #[true, true, true, true, true, true, true, true, true, true, true, true, true, true, true, true, true, true, true] (by kernel_rfl) ?_
   refine done_ (by kernel_rfl) ?_
   go_wp2_with (first | ((with_reducible refine gate_dst (N := 92) rfl ?_); refine Kd.N_lit (ownd 47 k47 w.heap.size) _ 36 ?hg (N' := 92) ?hd (xs := ([] : List (List (S47)))) (inner := []) (ok := (fun k_ => some k_ ≠ (.slice (some ad271) x7_2.length co65 : Value).ownBlock ∧ some k_ ≠ (v282 : Value).ownBlock ∧ k_ ≠ g)) (okp := (fun k_ => some k_ ≠ (.slice (some ad271) x7_2.length co65 : Value).ownBlock ∧ some k_ ≠ (v282 : Value).ownBlock ∧ k_ ≠ g)) ?hr ?hp (fun _ hk => hk) ((show ∀ k_, w73.heap.size ≤ k_ → (fun k_ => some k_ ≠ (.slice (some ad271) x7_2.length co65 : Value).ownBlock ∧ some k_ ≠ (v282 : Value).ownBlock ∧ k_ ≠ g) k_ from fun k_ hk => ⟨Kd.fresh' (Kd.N_lt (Kd.N_below HO_7.out lt_)) k_ hk, Kd.fresh' (Kd.R_lt (Kd.R_below HO283.out lt_)) k_ hk, IsS117.fresh (IsS117.below HI0.out lt_) k_ hk⟩) _ (Nat.le_refl _)) (Below.refl _ _) (Nat.le_refl _) (by simp) ?_; (case hd => rfl); (case hg => rfl); (case hr => first | (go_simp; done) | (go_simp; rfl)); (case hp => exact (Reps.none _ _)); intro v285 w74 ho75 hb hg_ hnew_; clear hg_ hnew_; (first | rw [← Ny284.out] at ho75 | (simp only [Int.reduceToNat] at ho75; rw [← Ny284.out] at ho75)); replace HO_7 := mk_ (Kd.N_elder' (Kd.N_below HO_7.out lt_) (Kd.N_base ho75) hb); replace HO283 := mk_ (Kd.R_below (Kd.R_below HO283.out lt_) hb); have HO286 := mk_ (Kd.N_lower ho75 (keep_size (w := w) (g := g) (row := none) (keep_at HK.out))); replace HI0 := mk_ (IsS117.below (IsS117.below HI0.out lt_) hb); replace HK := mk_ (KeepBut.trans (keep_at HK.out) (KeepBut.of_below hb g none) (.inl rfl)); replace HB := mk_ (below_step (below_at HB.out) hb); (try clear HL271_0 HL275_0); clear hb ho75; have q76 : (t253 : Int) ≤ ((x7_2.length : Int) : Int) := oa_; obtain ⟨i076, hi076, _, hsz76, _⟩ := info_parts info36p; have hroom76 : x7_2.length ≤ co65 := (Kd.N_reads' HO_7.out).2.1; have hC76 : Kd.F (ownd 47 k47 w.heap.size) _ _ (some ad271) x7_2.length x7_2 := (Kd.V_at (base := w.heap.size) (Kd.N_V HO_7.out)).2.2; have hcut76 := cut_to (P := Try.prog) 129 36 .i64 Try.underlying129 hi076 (some ad271) x7_2.length co65 t253 (oa_) q76 hroom76; have hr76 := Kd.F_take (m := (t253 : Int).toNat) hC76 (by omega); have hy76 : y287.length = (t253 : Int).toNat := (by rw [Ny287.out, List.length_take]; omega); rw [← Ny287.out] at hr76; rw [← hy76] at hcut76; have HO291 := mk_ (show Kd.V (ownd 47 k47 w.heap.size) 36 _ w.heap.size _ (.slice (some ad271) y287.length co65) y287 from Kd.V_mk (by omega) hr76); have HC291 := mk_ (show y287.length ≤ co65 from by omega); clear hr76 hC76 hroom76 hi076 hsz76; have KY76 := mk_ hy76; clear hy76; replace q76 := eq_true q76) | ((with_reducible refine gate_builtin (b := .append) (xs := #[.tmp 92, .tmp 95]) rfl ?_); at_builtin; refine Kd.N_append_rows (ownd 47 k47 w.heap.size) w.heap.size rfl (.tmp 92) (.tmp 95) 129 36 (.slice none 0 0) 24 rfl Try.underlying129 info36p rfl Nat.one_pos (by omega) v285 y284 y287 _ _ _ (fun k_ => some k_ ≠ (v282 : Value).ownBlock ∧ k_ ≠ g) (fun k_ => ((fun k_ => some k_ ≠ (v282 : Value).ownBlock ∧ k_ ≠ g)) k_ ∧ some k_ ≠ (v285 : Value).ownBlock) rfl rfl ?aO ?aR (fun _ hk => hk) ?aF (Below.refl _ _) ?aS ?aL ?_; (case aR => exact (by skip; exact Kd.V_F (Kd.V_mono (ok' := (fun k_ => ((fun k_ => some k_ ≠ (v282 : Value).ownBlock ∧ k_ ≠ g)) k_ ∧ some k_ ≠ (v285 : Value).ownBlock)) (HO291.out) (fun k_ hk => ⟨⟨hk.1.2, hk.1.1⟩, hk.2⟩)))); (case aF => exact (fun k_ hk => ⟨Kd.fresh' (Kd.R_lt (Kd.R_below HO283.out lt_)) k_ hk, IsS117.fresh (IsS117.below HI0.out lt_) k_ hk⟩)); (case aO => exact (Kd.N_below (Kd.N_mono HO286.out (fun _ hk => ⟨hk.2.1, hk.2.2⟩)) lt_)); (case aS => exact (keep_size (w := w) (g := g) (row := none) (keep_at HK.out))); (case aL => have := LMc59.out; omega); intro v293 w77 ho hb hg hat; rw [← Ny292.out] at ho; replace HO_7 := mk_ (Kd.N_afterv (ok := (fun k_ => some k_ ≠ (v282 : Value).ownBlock ∧ k_ ≠ g)) (Kd.N_below (Kd.N_mono HO_7.out (fun _ hk => ⟨⟨hk.1.2, hk.1.1⟩, hk.2⟩)) lt_) hg hat); replace HI0 := mk_ (IsS117.grown (IsS117.below HI0.out lt_) hg (IsS117.own_neN HI0.out HO286.out (by decide))); replace HO283 := mk_ (Kd.R_over' (Kd.R_below HO283.out lt_) (Kd.N_typed (Kd.N_below HO286.out lt_)) (by decide) hg); replace HB := mk_ (below_weaken (below_at HB.out) HL.out hb); replace HK := mk_ (KeepBut.trans (keep_at HK.out) (KeepBut.of_grown hg g) (Kd.N_base2 HO286.out)); have HO294 := mk_ (ho); (try clear HL271_0 HL275_0 HO291 HO286); clear ho hb hg hat; obtain ⟨Ao79, co79, eo79⟩ := Kd.R_slice HO283.out; subst eo79) | ((with_reducible refine gate_builtin (b := .append) (xs := #[.tmp 97, .tmp 99]) rfl ?_); at_builtin; refine Kd.N_append (ownd 47 k47 w.heap.size) w.heap.size rfl (.tmp 97) (.tmp 99) 129 36 (.slice none 0 0) 24 rfl Try.underlying129 info36p rfl Nat.one_pos (by omega) v293 y292 y281 [.slice Ao79 y281.length co79] (fun k_ => k_ ≠ g) (fun k_ => ((fun k_ => k_ ≠ g)) k_ ∧ some k_ ≠ (v293 : Value).ownBlock) rfl rfl ?aP (fun _ hk => hk) ?aF ?aO (Below.refl _ _) ?aS ?aL ?_; (case aP => exact (FK_own_mk (Kd.R_mono (ok' := (fun k_ => ((fun k_ => k_ ≠ g)) k_ ∧ some k_ ≠ (v293 : Value).ownBlock)) (IsS117.apart HI0.out (Kd.R_apart' (HO283.out) (Kd.N_typed HO294.out) (by decide)) (by decide)) (fun k_ hk => ⟨hk.2, hk.1.2⟩)))); (case aF => exact (fun k_ hk => IsS117.fresh (IsS117.below HI0.out lt_) k_ hk)); (case aO => exact (Kd.N_below (Kd.N_mono HO294.out (fun _ hk => hk.2)) lt_)); (case aS => exact (keep_size (w := w) (g := g) (row := none) (keep_at HK.out))); (case aL => have := LMc60.out; omega); intro v296 w78 ho hb hg hat; rw [← Ny295.out] at ho; replace HO_7 := mk_ (Kd.N_afterv (ok := (fun k_ => some k_ ≠ (.slice Ao79 y281.length co79 : Value).ownBlock ∧ k_ ≠ g)) (Kd.N_below HO_7.out lt_) hg hat); replace HI0 := mk_ (IsS117.grown (IsS117.below HI0.out lt_) hg (IsS117.own_neN HI0.out HO294.out (by decide))); replace HB := mk_ (below_weaken (below_at HB.out) HL.out hb); replace HK := mk_ (KeepBut.trans (keep_at HK.out) (KeepBut.of_grown hg g) (Kd.N_base2 HO294.out)); have HO297 := mk_ (ho); (try clear HL271_0 HL275_0 HO291 HO294 HO283); clear ho hb hg hat; have q80 : ((ji61) : Int) ≤ ((x7_2.length : Int) : Int) := oa_; obtain ⟨i080, hi080, _, hsz80, _⟩ := info_parts info36p; have hroom80 : x7_2.length ≤ co65 := (Kd.N_reads' HO_7.out).2.1; have hC80 : Kd.F (ownd 47 k47 w.heap.size) _ _ (some ad271) x7_2.length x7_2 := (Kd.V_at (base := w.heap.size) (Kd.N_V HO_7.out)).2.2; have q080 : (0 : Int) ≤ ((ji61) : Int) := oa_; have hcut80 := cut_from (P := Try.prog) 129 36 .i64 Try.underlying129 hi080 1 hsz80 (some ad271) x7_2.length co65 (ji61) q080 q80; have hr80 := Kd.F_cut (m := ((ji61) : Int).toNat) (c := co65) hC80 (by omega) hroom80; obtain ⟨A80, hA80⟩ : ∃ A1, A1 = (if co65 = ((ji61) : Int).toNat then (some ad271) else ((some ad271) : Option Addr).map (·.add (((ji61) : Int).toNat * 1))) := ⟨_, rfl⟩; obtain ⟨c80, hc80⟩ : ∃ c1, c1 = co65 - ((ji61) : Int).toNat := ⟨_, rfl⟩; have hy80 : y298.length = x7_2.length - ((ji61) : Int).toNat := (by rw [Ny298.out, List.length_drop] <;> omega); rw [show (x7_2).drop ((ji61) : Int).toNat = y298 from Ny298.out.symm] at hr80; replace hr80 : Kd.F (ownd 47 k47 w.heap.size) _ _ A80 y298.length y298 := (by rw [hA80]; exact hr80); rw [← hy80, ← hA80, ← hc80] at hcut80; have HO302 := mk_ (show Kd.V (ownd 47 k47 w.heap.size) 36 _ w.heap.size _ (.slice A80 y298.length c80) y298 from Kd.V_mk (by rw [hy80, hc80]; exact Nat.sub_le_sub_right hroom80 _) hr80); have HC302 := mk_ (show y298.length ≤ c80 from by rw [hy80, hc80]; exact Nat.sub_le_sub_right hroom80 _); clear hr80 hC80 hroom80 hi080 hsz80 hc80; have KY80 := mk_ hy80; have KA80 := mk_ hA80; clear hy80 hA80; replace q80 := eq_true q80) | ((with_reducible refine gate_builtin (b := .append) (xs := #[.tmp 101, .tmp 105]) rfl ?_); at_builtin; refine Kd.N_append_rows (ownd 47 k47 w.heap.size) w.heap.size rfl (.tmp 101) (.tmp 105) 129 36 (.slice none 0 0) 24 rfl Try.underlying129 info36p rfl Nat.one_pos (by omega) v296 y295 y298 _ _ _ (fun k_ => k_ ≠ g) (fun k_ => ((fun k_ => k_ ≠ g)) k_ ∧ some k_ ≠ (v296 : Value).ownBlock) rfl rfl ?aO ?aR (fun _ hk => hk) ?aF (Below.refl _ _) ?aS ?aL ?_; (case aR => exact (by skip; exact Kd.V_F (Kd.V_mono (ok' := (fun k_ => ((fun k_ => k_ ≠ g)) k_ ∧ some k_ ≠ (v296 : Value).ownBlock)) (HO302.out) (fun k_ hk => ⟨hk.1.2, hk.2⟩)))); (case aF => exact (fun k_ hk => IsS117.fresh (IsS117.below HI0.out lt_) k_ hk)); (case aO => exact (Kd.N_below HO297.out lt_)); (case aS => exact (keep_size (w := w) (g := g) (row := none) (keep_at HK.out))); (case aL => have := LMc64.out; omega); intro v304 w81 ho hb hg hat; rw [← Ny303.out] at ho; replace HI0 := mk_ (IsS117.grown (IsS117.below HI0.out lt_) hg (IsS117.own_neN HI0.out HO297.out (by decide))); replace HB := mk_ (below_weaken (below_at HB.out) HL.out hb); replace HK := mk_ (KeepBut.trans (keep_at HK.out) (KeepBut.of_grown hg g) (Kd.N_base2 HO297.out)); have HO305 := mk_ (ho); (try clear HO_7 HL271_0 HL275_0 HO291 HO302 HO297); clear ho hb hg hat))
   (try subst hji61)
   (try subst hji51)
   go_roundg k2
   case measure => have := HK1.out; have := HK2.out; omega
   case rel => exact ⟨(y303), (x9_2), (t280), sm_, H', ⟨by have := HK1.out; have := HK2.out; omega⟩, ⟨Kd.N_below HO305.out lt_⟩, ⟨IsS117.below HI0.out lt_⟩, ⟨keep_at HK.out⟩, ⟨below_at HB.out⟩⟩
end Go.Proofs.Ytcaogllnbpmcgaa.P

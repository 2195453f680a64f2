/- Go's functions come to just the answers of the Lean functions told here. -/
import Derived.Test.YtcaogllnbpmcgaaDoorPx2
namespace Go.Proofs.YtcaogllnbpmcgaaDoor.P
open Go.RowKit Go.Proofs.YtcaogllnbpmcgaaDoorW.PrintWords Go.Proofs.YtcaogllnbpmcgaaDoorW.PrintLast Go.Proofs.YtcaogllnbpmcgaaDoorW.PrintMore
attribute [local go_sem] max2_int min2_int max_two min_two max_three min_three max_four min_four
set_option linter.unusedVariables false
set_option linter.unusedSimpArgs false
-- HAND rounds=1 making=1
/-! A row's rows each of the call's own, however often they are led to. -/
def ownd {α : Type} (e : Nat) (d : Kd α) (b : Nat) : Kd (List α) where
  sz := 1
  E := e :: d.E
  K := fun w xs cs => ∃ v, cs = [v] ∧ d.R e w b (fun _ => True) v xs
  M := fun w base ok xs cs => ∃ v, cs = [v] ∧ d.R e w (max b base) ok v xs
  K_len := by
    rintro w x cs ⟨v, rfl, _⟩
    rfl
  K_one := by
    rintro w x cs ⟨v, rfl, h⟩ u hu
    rw [List.mem_singleton.1 hu]
    obtain ⟨A, c, rfl⟩ := Kd.R_slice h
    rfl
  K_below := by
    rintro w w1 x cs hb ⟨v, rfl, h⟩
    exact ⟨v, rfl, Kd.R_below h hb⟩
  K_of_M := by
    rintro w base ok x cs ⟨v, rfl, h⟩
    exact ⟨v, rfl, Kd.R_mono (Kd.R_lower h (Nat.le_max_left _ _)) (fun _ _ => trivial)⟩
  M_mono := by
    rintro w base ok ok' x cs hok ⟨v, rfl, h⟩
    exact ⟨v, rfl, Kd.R_mono h hok⟩
  M_bound := by
    rintro w base ok x cs ⟨v, rfl, h⟩
    exact ⟨v, rfl, Kd.R_mono (Kd.R_bound h) (fun k hk => ⟨hk.1, Nat.le_trans (Nat.le_max_right _ _) hk.2.1, hk.2.2⟩)⟩
  M_move := by
    rintro w w1 base ok x cs hm ⟨v, rfl, h⟩
    exact ⟨v, rfl, Kd.R_move h hm⟩
  M_lower := by
    rintro w base base' ok x cs hb ⟨v, rfl, h⟩
    exact ⟨v, rfl, Kd.R_lower h (by omega)⟩
theorem own_K {α : Type} {e b : Nat} {d : Kd α} {w : World} {l : List α} {c : List Value} (h : (ownd e d b).K w l c) : (Kd.slice e d).K w l c := by
  obtain ⟨v, rfl, h⟩ := h
  obtain ⟨A, c, rfl, hl, hC⟩ := Kd.R_reads h
  exact ⟨A, c, rfl, hl, hC⟩
theorem own_C {α : Type} {e b n : Nat} {d : Kd α} {w : World} {A : Option Addr} {l : List (List α)} (h : (ownd e d b).C w A n l) : (Kd.slice e d).C w A n l :=
  ⟨h.1, h.2.1, fun hn => by
    obtain ⟨ad, ea, hc⟩ := h.2.2 hn
    refine ⟨ad, ea, fun j p hj => ?_⟩
    obtain ⟨c, hs, hr, hcell⟩ := hc j p hj
    exact ⟨c, hs, own_K hr, hcell⟩⟩
theorem FK_own_open {α : Type} {e b : Nat} {d : Kd α} {W : World} {ok : Nat → Prop} {l : List α} {cs : List Value} (h : Kd.FK (ownd e d b) W ok l cs) : ∃ A c, cs = [.slice A l.length c] ∧ l.length ≤ c ∧ Kd.F d W ok A l.length l :=
  Kd.FK_slice_open (e := e) (Foot.imp h (fun _ h => own_K h))
theorem FK_own_mk {α : Type} {e b : Nat} {d : Kd α} {W : World} {ok : Nat → Prop} {l : List α} {v : Value} (h : d.R e W b ok v l) : Kd.FK (ownd e d b) W ok l [v] := fun _ hW => ⟨v, rfl, Kd.R_mono (Kd.R_step h hW) (fun _ _ => trivial)⟩
theorem cell_old {w w1 : World} {a : Addr} {v : Value} (h : w.cell? a = some v) (hb : Below w.heap.size w w1) : w1.cell? a = some v := Kd.cell_heap (fun k hk => hb.block k hk) h
theorem cell_apart {w w1 : World} {row : Option Nat} {a : Addr} {i : Nat} {v : Value} (h : w.cell? (a.add i) = some v) (hg : w.grownBy w1 row) (hne : some a.block ≠ row) : w1.cell? (a.add i) = some v := by
  have hb : (a.add i).block = a.block := by
    unfold Addr.add
    split <;> rfl
  have := hg.block a.block (by have h2 := World.block_lt_of_cell? w (a.add i) h; rwa [hb] at h2) hne
  simpa [World.cell?, hb, this] using h
theorem info24p : (Tryd.prog.info? 24).map (fun i => (i.zero, i.size, i.bytes)) = some (some (.slice none 0 0), 1, 24) := by kernel_rfl
theorem info82p : (Tryd.prog.info? 82).map (fun i => (i.zero, i.size, i.bytes)) = some (some (.agg #[(.int .i64 0), (.int .i64 0)]), 2, 16) := by kernel_rfl
def rd_Lparts (xs : List (List S82)) (i : Int) : List S82 := xs.getD i.toNat ([] : List S82)
theorem at_Lparts {w : World} {A : Option Addr} {n : Nat} {xs : List (List S82)} (h : Kd.C (Kd.slice 82 k82) w A n xs) (i : Int) (h0 : 0 ≤ i) (h1 : i < n) : ∃ ad A0 c0, A = some ad ∧ w.cell? (ad.add i.toNat) = some (.slice A0 (rd_Lparts xs i).length c0) ∧ (rd_Lparts xs i).length ≤ c0 ∧ k82.C w A0 (rd_Lparts xs i).length (rd_Lparts xs i) := by
  obtain ⟨ad, c, e, _, hK, hc0⟩ := Kd.C_get h ([] : List S82) i h0 h1
  have hc : ∀ j u, c[j]? = some u → w.cell? (ad.add (i.toNat * 1 + j)) = some u := hc0
  obtain ⟨A0, c0, rfl, l0, g0⟩ := hK
  exact ⟨ad, A0, c0, e, by have hq := hc 0 _ rfl; rwa [Nat.mul_one, Nat.add_zero] at hq, l0, g0⟩
mutual
def spec_l20Term.l0 : Nat → Int → Int → List (List (S82)) → Int → List Int → Int → Option ((List (S82)) × Int)
 | 0, _, _, _, _, _, _ => none
 | k + 1, x1, x2, x7, x8, x1000, x1001 => if x8 > 0 then ((spec_l20Rd_pick.f k x1000 x1001 4).bind fun bt111 => (if bt111.1 = 0 then ((spec_l20Rd_pick.f k x1000 bt111.2 (wrap64 (x1 + 2))).bind fun bt113 => (if x7.length < 5864062014805 then (spec_l20Term.l0 k x1 x2 (x7 ++ [(([(⟨1, bt113.1⟩ : S82)] : List (S82)))]) (wrap64 (x8 - 1)) x1000 bt113.2) else (none))) else ((spec_l20Rd_pick.f k x1000 bt111.2 x1).bind fun bt121 => (if x7.length < 5864062014805 then (spec_l20Term.l0 k x1 x2 (x7 ++ [(([(⟨0, bt121.1⟩ : S82)] : List (S82)))]) (wrap64 (x8 - 1)) x1000 bt121.2) else (none))))) else (spec_l20Term.l1 k x2 x7 3 x1000 x1001)
def spec_l20Term.l1 : Nat → Int → List (List (S82)) → Int → List Int → Int → Option ((List (S82)) × Int)
 | 0, _, _, _, _, _ => none
 | k + 1, x2, x7, x9, x1000, x1001 => if (x7.length : Int) > 1 then ((spec_l20Rd_pick.f k x1000 x1001 (wrap64 ((x7.length : Int) - 1))).bind fun bt129 => (if x9 > 0 then ((spec_l20Rd_pick.f k x1000 bt129.2 4).bind fun bt131 => (spec_l20Term.j2 k x2 x7 x9 bt129.1 (bt131.1 == 0) x1000 bt131.2)) else (spec_l20Term.j2 k x2 x7 x9 bt129.1 false x1000 bt129.2))) else (if 0 < (x7.length : Int) then ((some (([] : List (S82)) : List (S82))).bind fun y183 => (if y183.length + (rd_Lparts x7 0).length < 8796093022208 then ((some (y183 ++ (rd_Lparts x7 0) : List (S82))).bind fun y186 => ((spec_l20Rd_pick.f k x1000 x1001 5).bind fun bt189 => (if bt189.1 = 0 then (if y186.length < 8796093022208 then (spec_l20Term.j3 k x2 (y186 ++ [(⟨2, 0⟩ : S82)]) x1000 bt189.2) else (none)) else (spec_l20Term.j3 k x2 y186 x1000 bt189.2)))) else (none))) else (none))
def spec_l20Term.j2 : Nat → Int → List (List (S82)) → Int → Int → Bool → List Int → Int → Option ((List (S82)) × Int)
 | 0, _, _, _, _, _, _, _ => none
 | k + 1, x2, x7, x9, x10, x59, x1000, x1001 => if x59 = true then ((some (([] : List (S82)) : List (S82))).bind fun y133 => (if 0 ≤ x10 then (if x10 < (x7.length : Int) then (if y133.length + (rd_Lparts x7 x10).length < 8796093022208 then ((some (y133 ++ (rd_Lparts x7 x10) : List (S82))).bind fun y137 => (if y137.length < 8796093022208 then (spec_l20Term.l1 k x2 (x7.set (x10 : Int).toNat (y137 ++ [(⟨2, 0⟩ : S82)])) (wrap64 (x9 - 1)) x1000 x1001) else (none))) else (none)) else (none)) else (none))) else ((some (([] : List (S82)) : List (S82))).bind fun y144 => (if 0 ≤ x10 then (if x10 < (x7.length : Int) then (if y144.length + (rd_Lparts x7 x10).length < 8796093022208 then ((some (y144 ++ (rd_Lparts x7 x10) : List (S82))).bind fun y148 => (if 0 ≤ (wrap64 (x10 + 1)) then (if (wrap64 (x10 + 1)) < (x7.length : Int) then (if y148.length + (rd_Lparts x7 (wrap64 (x10 + 1))).length < 8796093022208 then ((some (y148 ++ (rd_Lparts x7 (wrap64 (x10 + 1))) : List (S82))).bind fun y152 => ((spec_l20Rd_pick.f k x1000 x1001 3).bind fun bt155 => (if y152.length < 8796093022208 then ((some (([] : List (List (S82))) : List (List (S82)))).bind fun y160 => (if x10 ≤ (x7.length : Int) then ((some (x7.take (x10 : Int).toNat : List (List (S82)))).bind fun y163 => (if y160.length + y163.length < 5864062014805 then ((some (y160 ++ y163 : List (List (S82)))).bind fun y168 => (if y168.length < 5864062014805 then ((some (y168 ++ [(y152 ++ [(⟨wrap64 (3 + bt155.1), 0⟩ : S82)])] : List (List (S82)))).bind fun y171 => (if 0 ≤ (wrap64 (x10 + 2)) then (if (wrap64 (x10 + 2)) ≤ (x7.length : Int) then ((some (x7.drop ((wrap64 (x10 + 2)) : Int).toNat : List (List (S82)))).bind fun y174 => (if y171.length + y174.length < 5864062014805 then (spec_l20Term.l1 k x2 (y171 ++ y174) x9 x1000 bt155.2) else (none))) else (none)) else (none))) else (none))) else (none))) else (none))) else (none)))) else (none)) else (none)) else (none))) else (none)) else (none)) else (none)))
def spec_l20Term.j3 : Nat → Int → List (S82) → List Int → Int → Option ((List (S82)) × Int)
 | 0, _, _, _, _ => none
 | k + 1, x2, x13, x1000, x1001 => (spec_l20Rd_odd.f k x1000 x1001 x2).bind fun bt194 => (if bt194.1 = true then ((spec_l20Rd_pick.f k x1000 bt194.2 3).bind fun bt196 => (if bt196.1 = 0 then (some ((([] : List (S82))), bt196.2)) else (if bt196.1 = 1 then (if x13.length < 8796093022208 then (some ((x13 ++ [(⟨5, 0⟩ : S82)]), bt196.2)) else (none)) else ((spec_l20Rd_pick.f k x1000 bt196.2 2).bind fun bt204 => (if 0 < (x13.length : Int) then (some ((x13.set (0 : Int).toNat (⟨bt204.1, 6⟩ : S82)), bt204.2)) else (none)))))) else (some (x13, bt194.2)))
end
def spec_l20Term.f (k : Nat) (s0_0 : List Int) (s0_1 : Int) (a1 : Int) (a2 : Int) : Option ((List (S82)) × Int) := (spec_l20Rd_pick.f k s0_0 s0_1 4).bind fun bt109 => (spec_l20Term.l0 k (mn (mx a1 1) 4) a2 (([] : List (List (S82)))) (wrap64 (1 + bt109.1)) s0_0 bt109.2)
set_option maxHeartbeats 8000000 in
set_option maxRecDepth 100000 in
theorem spec_l20Term.calls (k : Nat) (g : Nat) (s0_0 : List Int) (s0_1 : Int) (a1 : Int) (a2 : Int) (r1 : List (S82)) (r2 : Int) (w0 w : World) (hI : IsS99 w0 w g s0_0 s0_1) (hB : Below w0.heap.size w0 w) (h : spec_l20Term.f k s0_0 s0_1 a1 a2 = some (r1, r2)) :
  Calls Tryd.prog 74 #[.pointer (some ⟨g, 0, none⟩), .int .i64 a1, .int .i64 a2] w fun e w' => ∃ v0_ : Value, e = .returned (v0_) ∧ Kd.R k82 82 w' w.heap.size (fun _ => True) v0_ r1 ∧ IsS99 w0 w' g s0_0 r2 ∧ Below w0.heap.size w0 w' ∧ KeepBut w w' g none := by
 have hu82 := Tryd.underlying82
 have HI0 := mk_ hI
 have HK := mk_ (KeepBut.refl w g none)
 have HL := mk_ hB.size
 clear hI
 have HW0 := mk_ hB.size
 have HB := mk_ hB
 clear hB
 unfold spec_l20Term.f at h
 have H := h
 clear h
 obtain ⟨ji4, hji4⟩ : ∃ j_ : Int, (mx a1 1) = j_ := ⟨_, rfl⟩
 first | rw [hji4] at H | simp only [hji4] at H
 (try (have hji4l : 1 ≤ ji4 := by (rw [← hji4]; unfold mx; (repeat' split) <;> omega)))
 (try (have hji4m : 0 ≤ ji4 := by omega))
 have hji4_ : (if a1 < 1 then 1 else a1) = ji4 := hji4
 obtain ⟨ji5, hji5⟩ : ∃ j_ : Int, (mn (ji4) 4) = j_ := ⟨_, rfl⟩
 first | rw [hji5] at H | simp only [hji5] at H
 have hji5_ : (if 4 < (ji4) then 4 else (ji4)) = ji5 := hji5
 have w5_ : wrap64 (ji5 + 2) = ji5 + 2 := Go.IntWalk.wrap64_in _ (by have h4_ := hji4_; have h5_ := hji5_; split at h4_ <;> split at h5_ <;> omega)
 obtain ⟨y106, hy106⟩ : ∃ y_ : List (List (S82)), y_ = (([] : List (List (S82)))) := ⟨_, rfl⟩
 replace H : ((spec_l20Rd_pick.f k s0_0 s0_1 4).bind fun bt109 => (spec_l20Term.l0 k ji5 a2 y106 (wrap64 (1 + bt109.1)) s0_0 bt109.2)) = some (r1, r2) := by first | (rw [hy106]; exact H) | exact H
 have Ny106 := mk_ hy106
 clear hy106
 replace H := bm_ H; obtain ⟨⟨t109, t110⟩, A6, H⟩ := H
 try dsimp only at H
 have H' := mk_ H
 clear H
 go_enter Tryd.func74, Tryd.ntmps74
 go_wp2_with (first | ((with_reducible refine gate_dst (N := 17) rfl ?_); refine Kd.N_lit (ownd 82 k82 w.heap.size) _ 24 ?hg (N' := 17) ?hd (xs := ([] : List (List (S82)))) (inner := []) (ok := (fun k_ => k_ ≠ g)) (okp := (fun k_ => k_ ≠ g)) ?hr ?hp (fun _ hk => hk) ((show ∀ k_, w.heap.size ≤ k_ → (fun k_ => k_ ≠ g) k_ from fun k_ hk => IsS99.fresh (IsS99.below HI0.out lt_) k_ hk) _ (Nat.le_refl _)) (Below.refl _ _) (Nat.le_refl _) (by simp) ?_; (case hd => rfl); (case hg => rfl); (case hr => first | (go_simp; done) | (go_simp; rfl)); (case hp => exact (Reps.none _ _)); intro v107 w7 ho8 hb hg_ hnew_; clear hg_ hnew_; (first | rw [← Ny106.out] at ho8 | (simp only [Int.reduceToNat] at ho8; rw [← Ny106.out] at ho8)); have HO108 := mk_ (Kd.N_lower ho8 (keep_size (w := w) (g := g) (row := none) (keep_at HK.out))); replace HI0 := mk_ (IsS99.below (IsS99.below HI0.out lt_) hb); replace HK := mk_ (KeepBut.trans (keep_at HK.out) (KeepBut.of_below hb g none) (.inl rfl)); replace HB := mk_ (below_step (below_at HB.out) hb); clear hb ho8) | (refine gc_ 52 (some 19) Tryd.func52 #[.pointer (some ⟨g, 0, none⟩), .int .i64 4] ?_; (with_reducible refine (spec_l20Rd_pick.calls k g s0_0 s0_1 4 t109 t110 w0 _ ?side1 ?side2 A6.out).mono ?_); (case side1 => exact IsS99.below HI0.out lt_); (case side2 => exact below_at HB.out); rintro e w9 ⟨rfl, hi, hb, hk⟩; refine ⟨_, rfl, ?_⟩; replace HO108 := mk_ (Kd.N_mono (Kd.N_keep (Kd.N_mono (ok := fun k_ => k_ ≠ g) (Kd.N_below HO108.out lt_) (fun k_ hk_ => (⟨hk_, hk_⟩ : _ ∧ k_ ≠ g))) hk (fun _ h => h.2)) (fun _ h => h.1)); replace HK := mk_ (KeepBut.trans (keep_at HK.out) hk (.inl rfl)); replace HB := mk_ (hb); replace HI0 := mk_ (hi); (try clear hb)))
 go_loopg [7, 8] k (fun kq v7 v8 w' => ∃ (x7_1 : List (List (S82))) (x8_1 : Int) (x1001_1 : Int), v8 = .int .i64 x8_1 ∧ Aside0 (spec_l20Term.l0 kq ji5 a2 x7_1 x8_1 s0_0 x1001_1 = some (r1, r2)) ∧ Aside0 (kq ≤ k) ∧ Aside0 (Kd.N (ownd 82 k82 w.heap.size) 24 w' w.heap.size (fun k_ => k_ ≠ g) v7 x7_1) ∧ Aside0 (IsS99 w0 w' g s0_0 x1001_1) ∧ Aside0 (KeepBut w w' g none) ∧ Aside0 (Below w0.heap.size w0 w'))
 case atStart => exact ⟨(y106), (wrap64 (1 + t109)), (t110), sm_, H', ⟨Nat.le_refl _⟩, ⟨Kd.N_below HO108.out lt_⟩, ⟨IsS99.below HI0.out lt_⟩, ⟨keep_at HK.out⟩, ⟨below_at HB.out⟩⟩
 clear H'
 try clear p2
 try clear c5
 try clear p6
 try clear c7
 obtain ⟨x7_1, x8_1, x1001_1, rfl, HA, HK1, HO_7, HI0, HK, HB⟩ := hrel
 cases gk with
 | zero => exact absurd HA.out (by simp [spec_l20Term.l0])
 | succ k1 =>
  have H := HA.out
  clear HA
  simp only [spec_l20Term.l0] at H
  revert H; refine it_ (dt_g fun c10b0 H => ?_) (df_g fun c10b0 H => ?_)
  ·replace H := bm_ H; obtain ⟨⟨t111, t112⟩, A11, H⟩ := H
   try dsimp only at H
   revert H; refine it_ (qt_ fun c12b0 c12b1 H => ?_) (qfk_ fun c12 c12b0 c12b1 H => ?_)
   ·replace H := bm_ H; obtain ⟨⟨t113, t114⟩, A13, H⟩ := H
    try dsimp only at H
    obtain ⟨y115, hy115⟩ : ∃ y_ : List (S82), y_ = (([(⟨1, t113⟩ : S82)] : List (S82))) := ⟨_, rfl⟩
    first | (replace H := bn_ hy115 H; try dsimp only at H) | rw [← hy115] at H
    have Ny115 := mk_ hy115
    clear hy115
    revert H; refine g_ (mt_ fun LMc14 H => ?_)
    obtain ⟨y118, hy118⟩ : ∃ y_ : List (List (S82)), y_ = (x7_1 ++ [y115]) := ⟨_, rfl⟩
    first | (replace H := bn_ hy118 H; try dsimp only at H) | rw [← hy118] at H
    have Ny118 := mk_ hy118
    clear hy118
    have H' := mk_ H
    clear H
    go_wp2_with (first | (refine gc_ 52 (some 26) Tryd.func52 #[.pointer (some ⟨g, 0, none⟩), .int .i64 4] ?_; (with_reducible refine (spec_l20Rd_pick.calls k1 g s0_0 x1001_1 4 t111 t112 w0 _ ?side1 ?side2 A11.out).mono ?_); (case side1 => exact IsS99.below HI0.out lt_); (case side2 => exact below_at HB.out); rintro e w15 ⟨rfl, hi, hb, hk⟩; refine ⟨_, rfl, ?_⟩; replace HO_7 := mk_ (Kd.N_mono (Kd.N_keep (Kd.N_mono (ok := fun k_ => k_ ≠ g) (Kd.N_below HO_7.out lt_) (fun k_ hk_ => (⟨hk_, hk_⟩ : _ ∧ k_ ≠ g))) hk (fun _ h => h.2)) (fun _ h => h.1)); replace HK := mk_ (KeepBut.trans (keep_at HK.out) hk (.inl rfl)); replace HB := mk_ (hb); replace HI0 := mk_ (hi); (try clear hb)) | ((with_reducible refine gate_callee (f := 52) rfl ?_); refine goesL_ (some 32) rfl rfl Tryd.func52 (by kernel_rfl) rfl #[.pointer (some ⟨g, 0, none⟩), .int .i64 (ji5 + 2)] rfl (by (try simp only [List.map_toArray, List.map_cons, List.map_nil]); first | done | (simp only [hji5]; rfl) | rfl | (simp only [List.length_drop, List.length_take]; rfl)) ?_; (with_reducible refine (spec_l20Rd_pick.calls k1 g s0_0 t112 (ji5 + 2) t113 t114 w0 _ ?side1 ?side2 (by have h_ := A13.out; rw [w5_] at h_; exact h_)).mono ?_); (case side1 => exact IsS99.below HI0.out lt_); (case side2 => exact below_at HB.out); rintro e w16 ⟨rfl, hi, hb, hk⟩; refine ⟨_, rfl, ?_⟩; replace HO_7 := mk_ (Kd.N_mono (Kd.N_keep (Kd.N_mono (ok := fun k_ => k_ ≠ g) (Kd.N_below HO_7.out lt_) (fun k_ hk_ => (⟨hk_, hk_⟩ : _ ∧ k_ ≠ g))) hk (fun _ h => h.2)) (fun _ h => h.1)); replace HK := mk_ (KeepBut.trans (keep_at HK.out) hk (.inl rfl)); replace HB := mk_ (hb); replace HI0 := mk_ (hi); (try clear hb)) | ((with_reducible refine gate_dst (N := 34) rfl ?_); refine Kd.R_lit k82 _ 82 ?hg (N := 34) ?hd (xs := ([(⟨1, t113⟩ : S82)] : List (S82))) (inner := [.int .i64 1, .int .i64 t113]) (ok := fun _ => True) (okp := fun _ => True) ?hr ?hp (fun _ hk => hk) trivial (Below.refl _ _) (Nat.le_refl _) (by simp) ?_; (case hd => rfl); (case hg => rfl); (case hr => first | (go_simp; done) | (go_simp; rfl)); (case hp => exact (Reps.c2 (show Kd.M k82 _ _ _ (⟨1, t113⟩ : S82) [.int .i64 1, .int .i64 t113] from (k82_mkM _ _ _ (⟨1, t113⟩ : S82) )) (Reps.none _ _))); intro v116 w17 ho18 hb hg_ hnew_; clear hg_ hnew_; (first | rw [← Ny115.out] at ho18 | (simp only [Int.reduceToNat] at ho18; rw [← Ny115.out] at ho18)); replace HO_7 := mk_ (Kd.N_elder' (Kd.N_below HO_7.out lt_) (Kd.R_base ho18) hb); have HO117 := mk_ (Kd.R_lower ho18 (keep_size (w := w) (g := g) (row := none) (keep_at HK.out))); replace HI0 := mk_ (IsS99.below (IsS99.below HI0.out lt_) hb); replace HK := mk_ (KeepBut.trans (keep_at HK.out) (KeepBut.of_below hb g none) (.inl rfl)); replace HB := mk_ (below_step (below_at HB.out) hb); clear hb ho18; obtain ⟨Ao20, co20, eo20⟩ := Kd.R_slice HO117.out; subst eo20) | ((with_reducible refine gate_builtin (b := .append) (xs := #[.tmp 28, .tmp 35]) rfl ?_); at_builtin; refine Kd.N_append (ownd 82 k82 w.heap.size) w.heap.size rfl (.tmp 28) (.tmp 35) 128 24 (.slice none 0 0) 24 rfl Tryd.underlying128 info24p rfl Nat.one_pos (by omega) u7 x7_1 y115 [.slice Ao20 y115.length co20] (fun k_ => k_ ≠ g) (fun k_ => ((fun k_ => k_ ≠ g)) k_ ∧ some k_ ≠ (u7 : Value).ownBlock) rfl rfl ?aP (fun _ hk => hk) ?aF ?aO (Below.refl _ _) ?aS ?aL ?_; (case aP => exact (FK_own_mk (Kd.R_mono (ok' := (fun k_ => ((fun k_ => k_ ≠ g)) k_ ∧ some k_ ≠ (u7 : Value).ownBlock)) (IsS99.apart HI0.out (Kd.R_apart' (HO117.out) (Kd.N_typed HO_7.out) (by decide)) (by decide)) (fun k_ hk => ⟨hk.2, hk.1.2⟩)))); (case aF => exact (fun k_ hk => IsS99.fresh (IsS99.below HI0.out lt_) k_ hk)); (case aO => exact (Kd.N_below (Kd.N_mono HO_7.out (fun _ hk => hk.1)) lt_)); (case aS => exact (keep_size (w := w) (g := g) (row := none) (keep_at HK.out))); (case aL => have := LMc14.out; omega); intro v119 w19 ho hb hg hat; rw [← Ny118.out] at ho; replace HI0 := mk_ (IsS99.grown (IsS99.below HI0.out lt_) hg (IsS99.own_neN HI0.out HO_7.out (by decide))); replace HB := mk_ (below_weaken (below_at HB.out) HL.out hb); replace HK := mk_ (KeepBut.trans (keep_at HK.out) (KeepBut.of_grown hg g) (Kd.N_base2 HO_7.out)); have HO120 := mk_ (ho); (try clear HO_7 HO117); clear ho hb hg hat))
    go_roundg k1
    case measure => have := HK1.out; omega
    case rel => exact ⟨(y118), (wrap64 (x8_1 - 1)), (t114), sm_, H', ⟨by have := HK1.out; omega⟩, ⟨Kd.N_below HO120.out lt_⟩, ⟨IsS99.below HI0.out lt_⟩, ⟨keep_at HK.out⟩, ⟨below_at HB.out⟩⟩
   replace H := bm_ H; obtain ⟨⟨t121, t122⟩, A21, H⟩ := H
   try dsimp only at H
   obtain ⟨y123, hy123⟩ : ∃ y_ : List (S82), y_ = (([(⟨0, t121⟩ : S82)] : List (S82))) := ⟨_, rfl⟩
   first | (replace H := bn_ hy123 H; try dsimp only at H) | rw [← hy123] at H
   have Ny123 := mk_ hy123
   clear hy123
   revert H; refine g_ (mt_ fun LMc22 H => ?_)
   obtain ⟨y126, hy126⟩ : ∃ y_ : List (List (S82)), y_ = (x7_1 ++ [y123]) := ⟨_, rfl⟩
   first | (replace H := bn_ hy126 H; try dsimp only at H) | rw [← hy126] at H
   have Ny126 := mk_ hy126
   clear hy126
   have H' := mk_ H
   clear H
   go_wp2_with (first | (refine gc_ 52 (some 26) Tryd.func52 #[.pointer (some ⟨g, 0, none⟩), .int .i64 4] ?_; (with_reducible refine (spec_l20Rd_pick.calls k1 g s0_0 x1001_1 4 t111 t112 w0 _ ?side1 ?side2 A11.out).mono ?_); (case side1 => exact IsS99.below HI0.out lt_); (case side2 => exact below_at HB.out); rintro e w23 ⟨rfl, hi, hb, hk⟩; refine ⟨_, rfl, ?_⟩; replace HO_7 := mk_ (Kd.N_mono (Kd.N_keep (Kd.N_mono (ok := fun k_ => k_ ≠ g) (Kd.N_below HO_7.out lt_) (fun k_ hk_ => (⟨hk_, hk_⟩ : _ ∧ k_ ≠ g))) hk (fun _ h => h.2)) (fun _ h => h.1)); replace HK := mk_ (KeepBut.trans (keep_at HK.out) hk (.inl rfl)); replace HB := mk_ (hb); replace HI0 := mk_ (hi); (try clear hb)) | ((with_reducible refine gate_callee (f := 52) rfl ?_); refine goesL_ (some 40) rfl rfl Tryd.func52 (by kernel_rfl) rfl #[.pointer (some ⟨g, 0, none⟩), .int .i64 ji5] rfl (by (try simp only [List.map_toArray, List.map_cons, List.map_nil]); first | done | (simp only [hji5]; rfl) | rfl | (simp only [List.length_drop, List.length_take]; rfl)) ?_; (with_reducible refine (spec_l20Rd_pick.calls k1 g s0_0 t112 ji5 t121 t122 w0 _ ?side1 ?side2 A21.out).mono ?_); (case side1 => exact IsS99.below HI0.out lt_); (case side2 => exact below_at HB.out); rintro e w24 ⟨rfl, hi, hb, hk⟩; refine ⟨_, rfl, ?_⟩; replace HO_7 := mk_ (Kd.N_mono (Kd.N_keep (Kd.N_mono (ok := fun k_ => k_ ≠ g) (Kd.N_below HO_7.out lt_) (fun k_ hk_ => (⟨hk_, hk_⟩ : _ ∧ k_ ≠ g))) hk (fun _ h => h.2)) (fun _ h => h.1)); replace HK := mk_ (KeepBut.trans (keep_at HK.out) hk (.inl rfl)); replace HB := mk_ (hb); replace HI0 := mk_ (hi); (try clear hb)) | ((with_reducible refine gate_dst (N := 42) rfl ?_); refine Kd.R_lit k82 _ 82 ?hg (N := 42) ?hd (xs := ([(⟨0, t121⟩ : S82)] : List (S82))) (inner := [.int .i64 0, .int .i64 t121]) (ok := fun _ => True) (okp := fun _ => True) ?hr ?hp (fun _ hk => hk) trivial (Below.refl _ _) (Nat.le_refl _) (by simp) ?_; (case hd => rfl); (case hg => rfl); (case hr => first | (go_simp; done) | (go_simp; rfl)); (case hp => exact (Reps.c2 (show Kd.M k82 _ _ _ (⟨0, t121⟩ : S82) [.int .i64 0, .int .i64 t121] from (k82_mkM _ _ _ (⟨0, t121⟩ : S82) )) (Reps.none _ _))); intro v124 w25 ho26 hb hg_ hnew_; clear hg_ hnew_; (first | rw [← Ny123.out] at ho26 | (simp only [Int.reduceToNat] at ho26; rw [← Ny123.out] at ho26)); replace HO_7 := mk_ (Kd.N_elder' (Kd.N_below HO_7.out lt_) (Kd.R_base ho26) hb); have HO125 := mk_ (Kd.R_lower ho26 (keep_size (w := w) (g := g) (row := none) (keep_at HK.out))); replace HI0 := mk_ (IsS99.below (IsS99.below HI0.out lt_) hb); replace HK := mk_ (KeepBut.trans (keep_at HK.out) (KeepBut.of_below hb g none) (.inl rfl)); replace HB := mk_ (below_step (below_at HB.out) hb); clear hb ho26; obtain ⟨Ao28, co28, eo28⟩ := Kd.R_slice HO125.out; subst eo28) | ((with_reducible refine gate_builtin (b := .append) (xs := #[.tmp 37, .tmp 43]) rfl ?_); at_builtin; refine Kd.N_append (ownd 82 k82 w.heap.size) w.heap.size rfl (.tmp 37) (.tmp 43) 128 24 (.slice none 0 0) 24 rfl Tryd.underlying128 info24p rfl Nat.one_pos (by omega) u7 x7_1 y123 [.slice Ao28 y123.length co28] (fun k_ => k_ ≠ g) (fun k_ => ((fun k_ => k_ ≠ g)) k_ ∧ some k_ ≠ (u7 : Value).ownBlock) rfl rfl ?aP (fun _ hk => hk) ?aF ?aO (Below.refl _ _) ?aS ?aL ?_; (case aP => exact (FK_own_mk (Kd.R_mono (ok' := (fun k_ => ((fun k_ => k_ ≠ g)) k_ ∧ some k_ ≠ (u7 : Value).ownBlock)) (IsS99.apart HI0.out (Kd.R_apart' (HO125.out) (Kd.N_typed HO_7.out) (by decide)) (by decide)) (fun k_ hk => ⟨hk.2, hk.1.2⟩)))); (case aF => exact (fun k_ hk => IsS99.fresh (IsS99.below HI0.out lt_) k_ hk)); (case aO => exact (Kd.N_below (Kd.N_mono HO_7.out (fun _ hk => hk.1)) lt_)); (case aS => exact (keep_size (w := w) (g := g) (row := none) (keep_at HK.out))); (case aL => have := LMc22.out; omega); intro v127 w27 ho hb hg hat; rw [← Ny126.out] at ho; replace HI0 := mk_ (IsS99.grown (IsS99.below HI0.out lt_) hg (IsS99.own_neN HI0.out HO_7.out (by decide))); replace HB := mk_ (below_weaken (below_at HB.out) HL.out hb); replace HK := mk_ (KeepBut.trans (keep_at HK.out) (KeepBut.of_grown hg g) (Kd.N_base2 HO_7.out)); have HO128 := mk_ (ho); (try clear HO_7 HO125); clear ho hb hg hat))
   go_roundg k1
   case measure => have := HK1.out; omega
   case rel => exact ⟨(y126), (wrap64 (x8_1 - 1)), (t122), sm_, H', ⟨by have := HK1.out; omega⟩, ⟨Kd.N_below HO128.out lt_⟩, ⟨IsS99.below HI0.out lt_⟩, ⟨keep_at HK.out⟩, ⟨below_at HB.out⟩⟩
  have H' := mk_ H
  clear H
  go_wp2
  go_loopg [7, 9] k1 (fun kq v7 v9 w' => ∃ (x7_2 : List (List (S82))) (x9_2 : Int) (x1001_2 : Int), v9 = .int .i64 x9_2 ∧ Aside0 (spec_l20Term.l1 kq a2 x7_2 x9_2 s0_0 x1001_2 = some (r1, r2)) ∧ Aside0 (kq ≤ k1) ∧ Aside0 (Kd.N (ownd 82 k82 w.heap.size) 24 w' w.heap.size (fun k_ => k_ ≠ g) v7 x7_2) ∧ Aside0 (IsS99 w0 w' g s0_0 x1001_2) ∧ Aside0 (KeepBut w w' g none) ∧ Aside0 (Below w0.heap.size w0 w'))
  case atStart => exact ⟨(x7_1), (3), (x1001_1), sm_, H', ⟨Nat.le_refl _⟩, ⟨Kd.N_below HO_7.out lt_⟩, ⟨IsS99.below HI0.out lt_⟩, ⟨keep_at HK.out⟩, ⟨below_at HB.out⟩⟩
  clear H'
  try clear c1
  try clear c2
  try clear p2
  try clear c5
  try clear p6
  try clear c7
  try clear c10
  try clear c10b0
  try clear c12
  try clear c12b0
  try clear c12b1
  try clear c14
  try clear c22
  try clear p2
  try clear p6
  obtain ⟨x7_2, x9_2, x1001_2, rfl, HA, HK2, HO_7, HI0, HK, HB⟩ := hrel
  cases gk with
  | zero => exact absurd HA.out (by simp [spec_l20Term.l1])
  | succ k2 =>
   have H := HA.out
   clear HA
   simp only [spec_l20Term.l1] at H
   revert H; refine ti_ (fun c29 H => ?_) fun c29 H => ?_
   ·have c29b0 : decide (1 < (x7_2.length : Int)) = false := decide_eq_false c29
    have c29b1 : decide (1 < x7_2.length) = false := decide_eq_false (by omega)
    clear c29
    revert H; refine g_ (fun c80 H => ?_)
    have c80b0 : decide (0 < (x7_2.length : Int)) = true := decide_eq_true c80
    have c80b1 : decide (0 < x7_2.length) = true := decide_eq_true (by omega)
    clear c80
    obtain ⟨y183, hy183⟩ : ∃ y_ : List (S82), y_ = (([] : List (S82))) := ⟨_, rfl⟩
    replace H : (if y183.length + (rd_Lparts x7_2 0).length < 8796093022208 then ((some (y183 ++ (rd_Lparts x7_2 0) : List (S82))).bind fun y186 => ((spec_l20Rd_pick.f k2 s0_0 x1001_2 5).bind fun bt189 => (if bt189.1 = 0 then (if y186.length < 8796093022208 then (spec_l20Term.j3 k2 a2 (y186 ++ [(⟨2, 0⟩ : S82)]) s0_0 bt189.2) else (none)) else (spec_l20Term.j3 k2 a2 y186 s0_0 bt189.2)))) else (none)) = some (r1, r2) := by first | (rw [hy183]; exact H) | exact H
    have Ny183 := mk_ hy183
    clear hy183
    revert H; refine g_ (mt_ fun LMc81 H => ?_)
    obtain ⟨y186, hy186⟩ : ∃ y_ : List (S82), y_ = (y183 ++ (rd_Lparts x7_2 0)) := ⟨_, rfl⟩
    first | (replace H := bn_ hy186 H; try dsimp only at H) | rw [← hy186] at H
    have Ny186 := mk_ hy186
    clear hy186
    replace H := bm_ H; obtain ⟨⟨t189, t190⟩, A82, H⟩ := H
    try dsimp only at H
    have HC83 := mk_ H
    clear H
    obtain ⟨Ao84, co84, eo84⟩ := Kd.N_slice HO_7.out
    subst eo84
    have p182 : 0 ≤ (0 : Int) := (by omega)
    have q182 : 0 < (x7_2.length : Int) := oa_
    obtain ⟨ad182, A182_0, c182_0, e182, hx182_0, hl182_0, hi182_0⟩ := at_Lparts (own_C (Kd.N_reads' HO_7.out).2.2) 0 p182 q182
    cases e182
    obtain ⟨ce182, hce182, hMe182, hcc182⟩ := Kd.N_get HO_7.out [] 0 p182 (by first | exact q182 | exact oa_ | (have e_ := (Kd.N_reads' HO_7.out).1; omega))
    obtain ⟨ua182_0, uc182_0, rfl, ul182_0, ge182_0⟩ := FK_own_open hMe182
    have hv182_0 := hcc182 0 _ rfl
    rw [Nat.add_zero, show ((ownd 82 k82 w.heap.size)).sz = 1 from rfl, Nat.mul_one] at hv182_0
    replace hv182_0 := Option.some.inj (hv182_0.symm.trans hx182_0)
    injection hv182_0 with hva_ hvn_ hvc_
    rw [hva_] at ge182_0
    rw [hvc_] at ul182_0
    obtain ⟨vo_, ev_, hR_⟩ := Kd.FK_now hMe182
    injection ev_ with ev_
    subst ev_
    rw [hva_, hvc_] at hR_
    obtain ⟨v187, hv_⟩ : ∃ v_, v_ = (Value.slice A182_0 (rd_Lparts x7_2 0).length c182_0) := ⟨_, rfl⟩
    replace hR_ : Kd.R k82 82 _ w.heap.size (fun _ => True) (Value.slice A182_0 (rd_Lparts x7_2 0).length c182_0) (rd_Lparts x7_2 0) := hR_
    rw [← hv_] at hR_
    rw [← hv_] at hx182_0
    have HO188 := mk_ (show Kd.R k82 82 _ w.heap.size (fun _ => True) v187 y186 from by rw [Ny186.out, Ny183.out, List.nil_append]; exact hR_)
    clear hva_ hvn_ hvc_ ge182_0 ul182_0
    clear hcc182 hce182
    have qi182 : (0 < x7_2.length) = True := eq_true (by omega)
    (try rw [show ((0 : Int)).toNat = 0 from rfl] at hx182_0)
    (try rw [Addr.add_zero'] at hx182_0)
    clear hi182_0 hl182_0
    replace p182 := eq_true p182
    replace q182 := eq_true q182
    clear hR_ hv_
    clear HO_7
    go_upto_if 112 with (first | (refine gc_ 52 (some 111) Tryd.func52 #[.pointer (some ⟨g, 0, none⟩), .int .i64 5] ?_; (with_reducible refine (spec_l20Rd_pick.calls k2 g s0_0 x1001_2 5 t189 t190 w0 _ ?side1 ?side2 A82.out).mono ?_); (case side1 => exact IsS99.below HI0.out lt_); (case side2 => exact below_at HB.out); rintro e w88 ⟨rfl, hi, hb, hk⟩; refine ⟨_, rfl, ?_⟩; replace HO188 := mk_ (Kd.R_mono (Kd.R_keep (IsS99.apart (show IsS99 w0 _ g s0_0 x1001_2 from IsS99.below HI0.out lt_) (Kd.R_below HO188.out lt_) (by decide)) hk (fun _ h => h.2)) (fun _ h => h.1)); replace HK := mk_ (KeepBut.trans (keep_at HK.out) hk (.inl rfl)); replace HB := mk_ (hb); replace HI0 := mk_ (hi); (try clear hb)))
    (try simp only [Act.put, z0_, z1_, z2_])
    go_cut [13] (fun v13 wc => ∃ (kq : Nat) (x13_82 : List (S82)), Aside0 (spec_l20Term.j3 kq a2 x13_82 s0_0 t190 = some (r1, r2)) ∧ Aside0 (kq ≤ k2) ∧ Aside0 (Kd.R k82 82 wc w.heap.size (fun _ => True) v13 x13_82) ∧ Aside0 (IsS99 w0 wc g s0_0 t190) ∧ Aside0 (KeepBut w wc g none) ∧ Aside0 (Below w0.heap.size w0 wc))
    case first =>
     have H := HC83.out
     clear HC83
     revert H; refine ti_ (qfk_ fun c89 c89b0 c89b1 H => ?_) (qt_ fun c89b0 c89b1 H => ?_)
     ·(first | rw [c89b0] | (simp only [i64_w, i32_w]; rw [c89b0]) | skip)
      have H' := mk_ H
      clear H
      go_wp2
      go_meet
      case rel => exact ⟨_, (y186), H', ⟨by have := HK1.out; have := HK2.out; first | omega | exact Nat.le_refl _⟩, ⟨Kd.R_below HO188.out lt_⟩, ⟨IsS99.below HI0.out lt_⟩, ⟨keep_at HK.out⟩, ⟨below_at HB.out⟩⟩
     (first | rw [c89b0] | (simp only [i64_w, i32_w]; rw [c89b0]) | skip)
     revert H; refine g_ (mt_ fun LMc90 H => ?_)
     obtain ⟨y191, hy191⟩ : ∃ y_ : List (S82), y_ = (y186 ++ [(⟨2, 0⟩ : S82)]) := ⟨_, rfl⟩
     first | (replace H := bn_ hy191 H; try dsimp only at H) | rw [← hy191] at H
     have Ny191 := mk_ hy191
     clear hy191
     have H' := mk_ H
     clear H
     go_wp2_with (first | ((with_reducible refine gate_builtin (b := .append) (xs := #[.tmp 113, .tmp 115]) rfl ?_); at_builtin; refine Kd.R_append k82 w.heap.size rfl (.tmp 113) (.tmp 115) 24 82 (.agg #[(.int .i64 0), (.int .i64 0)]) 16 rfl Tryd.underlying24 info82p rfl (by decide) (by omega) v187 y186 (⟨2, 0⟩ : S82) [.int .i64 2, .int .i64 0] (fun _ => True) (fun _ => False) rfl rfl ?aP (fun _ hk => hk.elim) ?aF ?aO (Below.refl _ _) ?aS ?aL ?_; (case aP => exact k82_mkM _ _ _ (⟨2, 0⟩ : S82)); (case aF => exact (fun _ _ => trivial)); (case aO => exact (Kd.R_below HO188.out lt_)); (case aS => exact (keep_size (w := w) (g := g) (row := none) (keep_at HK.out))); (case aL => have := LMc90.out; omega); intro v192 w91 ho hb hg hat; rw [← Ny191.out] at ho; replace HI0 := mk_ (IsS99.grown (IsS99.below HI0.out lt_) hg (IsS99.own_ne HI0.out HO188.out (by decide))); replace HB := mk_ (below_weaken (below_at HB.out) HL.out hb); replace HK := mk_ (KeepBut.trans (keep_at HK.out) (KeepBut.of_grown hg g) (Kd.R_base2 HO188.out)); have HO193 := mk_ (ho); (try clear HO188); clear ho hb hg hat))
     go_meet
     case rel => exact ⟨_, (y191), H', ⟨by have := HK1.out; have := HK2.out; first | omega | exact Nat.le_refl _⟩, ⟨Kd.R_below HO193.out lt_⟩, ⟨IsS99.below HI0.out lt_⟩, ⟨keep_at HK.out⟩, ⟨below_at HB.out⟩⟩
    clear HC83
    try clear c1
    try clear p1
    try clear q1
    try clear hx1
    try clear qi1
    try clear c2
    try clear p2
    try clear c3
    try clear c4
    try clear p4
    try clear q4
    try clear hx4
    try clear hf4
    try clear c5
    try clear c6
    try clear p6
    try clear c7
    try clear q7
    try clear c8
    try clear c9
    try clear c10
    try clear c10b0
    try clear c12
    try clear c12b0
    try clear c12b1
    try clear c13
    try clear p13
    try clear q13
    try clear hx13
    try clear c14
    try clear p14
    try clear q14
    try clear hx14
    try clear c15
    try clear p15
    try clear q15
    try clear hx15
    try clear c18
    try clear p18
    try clear q18
    try clear hx18
    try clear qi18
    try clear c22
    try clear c29
    try clear c29b0
    try clear c29b1
    try clear c34
    try clear c34b0
    try clear c37
    try clear c38
    try clear c38b0
    try clear c39
    try clear c39b0
    try clear c40
    try clear c41
    try clear c42
    try clear p42
    try clear q42
    try clear hx42
    try clear hf42
    try clear c47
    try clear hx47
    try clear hf47
    try clear c49
    try clear c49b0
    try clear c50
    try clear c50b0
    try clear c51
    try clear c52
    try clear c53
    try clear c53b0
    try clear c54
    try clear c54b0
    try clear c55
    try clear c57
    try clear c58
    try clear c58b0
    try clear c59
    try clear c59b0
    try clear c59b1
    try clear c60
    try clear c61
    try clear c63
    try clear c63b0
    try clear c63b1
    try clear c64
    try clear c64b0
    try clear c64b1
    try clear p64
    try clear c65
    try clear c74
    try clear q74
    try clear c78
    try clear q78
    try clear c80
    try clear c80b0
    try clear c80b1
    try clear c81
    try clear c89
    try clear c89b0
    try clear c89b1
    try clear c90
    try clear hx136_0
    try clear hx147_0
    try clear hx151_0
    try clear hx182_0
    try clear hx42_0
    try clear hx47_0
    try clear p136
    try clear p147
    try clear p151
    try clear p182
    try clear p2
    try clear p42
    try clear p6
    try clear q078
    try clear q136
    try clear q147
    try clear q151
    try clear q182
    try clear q42
    try clear q74
    try clear q78
    obtain ⟨kq, x13_82, HA, HJ82, HO_13, HI0, HK, HB⟩ := hcut
    cases kq with
    | zero => exact absurd HA.out (by simp [spec_l20Term.j3])
    | succ kj82 =>
     have H := HA.out
     clear HA
     simp only [spec_l20Term.j3] at H
     replace H := bm_ H; obtain ⟨⟨t194, t195⟩, A92, H⟩ := H
     try dsimp only at H
     by_cases c93 : t194 = true
     rotate_left
     ·replace c93 := Bool.eq_false_iff.mpr c93
      subst c93
      have H1 : (some (x13_82, t195)) = some (r1, r2) := by rw [if_neg Bool.false_ne_true] at H; exact H
      clear H
      have H := H1
      clear H1
      simp only [Option.some.injEq, Prod.mk.injEq] at H
      obtain ⟨rfl, rfl⟩ := H
      go_wp2_with (first | (refine gc_ 55 (some 119) Tryd.func55 #[.pointer (some ⟨g, 0, none⟩), .int .i64 a2] ?_; (with_reducible refine (spec_l20Rd_odd.calls kj82 g s0_0 t190 a2 false t195 w0 _ ?side1 ?side2 A92.out).mono ?_); (case side1 => exact IsS99.below HI0.out lt_); (case side2 => exact below_at HB.out); rintro e w113 ⟨rfl, hi, hb, hk⟩; refine ⟨_, rfl, ?_⟩; replace HO_13 := mk_ (Kd.R_mono (Kd.R_keep (IsS99.apart (show IsS99 w0 _ g s0_0 t190 from IsS99.below HI0.out lt_) (Kd.R_below HO_13.out lt_) (by decide)) hk (fun _ h => h.2)) (fun _ h => h.1)); replace HK := mk_ (KeepBut.trans (keep_at HK.out) hk (.inl rfl)); replace HB := mk_ (hb); replace HI0 := mk_ (hi); (try clear hb)))
      go_ret
      exact ⟨_, by first | rfl | (simp [errW_none, errW_some] <;> rfl) | (simp only [← hji4, ← hji5]; first | rfl | (simp [errW_none, errW_some] <;> rfl)) | (simp [*, errW_none, errW_some] <;> rfl), rl_ HO_13.out, IsS99.below HI0.out lt_, below_at HB.out, keep_at HK.out⟩
     subst c93
     have H1 : ((spec_l20Rd_pick.f kj82 s0_0 t195 3).bind fun bt196 => (if bt196.1 = 0 then (some ((([] : List (S82))), bt196.2)) else (if bt196.1 = 1 then (if x13_82.length < 8796093022208 then (some ((x13_82 ++ [(⟨5, 0⟩ : S82)]), bt196.2)) else (none)) else ((spec_l20Rd_pick.f kj82 s0_0 bt196.2 2).bind fun bt204 => (if 0 < (x13_82.length : Int) then (some ((x13_82.set (0 : Int).toNat (⟨bt204.1, 6⟩ : S82)), bt204.2)) else (none)))))) = some (r1, r2) := by rw [if_pos rfl] at H; exact H
     clear H
     have H := H1
     clear H1
     replace H := bm_ H; obtain ⟨⟨t196, t197⟩, A94, H⟩ := H
     try dsimp only at H
     revert H; refine it_ (qt_ fun c95b0 c95b1 H => ?_) (qfk_ fun c95 c95b0 c95b1 H => ?_)
     ·obtain ⟨y198, hy198⟩ : ∃ y_ : List (S82), y_ = (([] : List (S82))) := ⟨_, rfl⟩
      replace H : (some (y198, t197)) = some (r1, r2) := by first | (rw [hy198]; exact H) | exact H
      have Ny198 := mk_ hy198
      clear hy198
      simp only [Option.some.injEq, Prod.mk.injEq] at H
      obtain ⟨rfl, rfl⟩ := H
      go_wp2_with (first | (refine gc_ 55 (some 119) Tryd.func55 #[.pointer (some ⟨g, 0, none⟩), .int .i64 a2] ?_; (with_reducible refine (spec_l20Rd_odd.calls kj82 g s0_0 t190 a2 true t195 w0 _ ?side1 ?side2 A92.out).mono ?_); (case side1 => exact IsS99.below HI0.out lt_); (case side2 => exact below_at HB.out); rintro e w96 ⟨rfl, hi, hb, hk⟩; refine ⟨_, rfl, ?_⟩; replace HO_13 := mk_ (Kd.R_mono (Kd.R_keep (IsS99.apart (show IsS99 w0 _ g s0_0 t190 from IsS99.below HI0.out lt_) (Kd.R_below HO_13.out lt_) (by decide)) hk (fun _ h => h.2)) (fun _ h => h.1)); replace HK := mk_ (KeepBut.trans (keep_at HK.out) hk (.inl rfl)); replace HB := mk_ (hb); replace HI0 := mk_ (hi); (try clear hb)) | (refine gc_ 52 (some 121) Tryd.func52 #[.pointer (some ⟨g, 0, none⟩), .int .i64 3] ?_; (with_reducible refine (spec_l20Rd_pick.calls kj82 g s0_0 t195 3 t196 t197 w0 _ ?side1 ?side2 A94.out).mono ?_); (case side1 => exact IsS99.below HI0.out lt_); (case side2 => exact below_at HB.out); rintro e w97 ⟨rfl, hi, hb, hk⟩; refine ⟨_, rfl, ?_⟩; replace HO_13 := mk_ (Kd.R_mono (Kd.R_keep (IsS99.apart (show IsS99 w0 _ g s0_0 t195 from IsS99.below HI0.out lt_) (Kd.R_below HO_13.out lt_) (by decide)) hk (fun _ h => h.2)) (fun _ h => h.1)); replace HK := mk_ (KeepBut.trans (keep_at HK.out) hk (.inl rfl)); replace HB := mk_ (hb); replace HI0 := mk_ (hi); (try clear hb)) | ((with_reducible refine gate_dst (N := 129) rfl ?_); refine Kd.R_lit k82 _ 82 ?hg (N := 129) ?hd (xs := ([] : List (S82))) (inner := []) (ok := fun _ => True) (okp := fun _ => True) ?hr ?hp (fun _ hk => hk) trivial (Below.refl _ _) (Nat.le_refl _) (by simp) ?_; (case hd => rfl); (case hg => rfl); (case hr => first | (go_simp; done) | (go_simp; rfl)); (case hp => exact (Reps.none _ _)); intro v199 w98 ho99 hb hg_ hnew_; clear hg_ hnew_; (first | rw [← Ny198.out] at ho99 | (simp only [Int.reduceToNat] at ho99; rw [← Ny198.out] at ho99)); have HO200 := mk_ (Kd.R_lower (Kd.R_new' ho99 (Kd.R_lt (Kd.R_below HO_13.out lt_))) (keep_size (w := w) (g := g) (row := none) (keep_at HK.out))); replace HI0 := mk_ (IsS99.below (IsS99.below HI0.out lt_) hb); replace HK := mk_ (KeepBut.trans (keep_at HK.out) (KeepBut.of_below hb g none) (.inl rfl)); replace HB := mk_ (below_step (below_at HB.out) hb); (try clear HO_13); clear hb ho99))
      go_ret
      exact ⟨_, by first | rfl | (simp [errW_none, errW_some] <;> rfl) | (simp only [← hji4, ← hji5]; first | rfl | (simp [errW_none, errW_some] <;> rfl)) | (simp [*, errW_none, errW_some] <;> rfl), by (with_reducible repeat (first | apply Kd.R_alloc | apply Kd.R_drewN | apply Kd.R_drew)); exact Kd.R_mono HO200.out (fun _ hk => trivial), IsS99.below HI0.out lt_, below_at HB.out, keep_at HK.out⟩
     revert H; refine it_ (qt_ fun c100b0 c100b1 H => ?_) (qfk_ fun c100 c100b0 c100b1 H => ?_)
     ·revert H; refine g_ (mt_ fun LMc101 H => ?_)
      obtain ⟨y201, hy201⟩ : ∃ y_ : List (S82), y_ = (x13_82 ++ [(⟨5, 0⟩ : S82)]) := ⟨_, rfl⟩
      first | (replace H := bn_ hy201 H; try dsimp only at H) | rw [← hy201] at H
      have Ny201 := mk_ hy201
      clear hy201
      simp only [Option.some.injEq, Prod.mk.injEq] at H
      obtain ⟨rfl, rfl⟩ := H
      go_wp2_with (first | (refine gc_ 55 (some 119) Tryd.func55 #[.pointer (some ⟨g, 0, none⟩), .int .i64 a2] ?_; (with_reducible refine (spec_l20Rd_odd.calls kj82 g s0_0 t190 a2 true t195 w0 _ ?side1 ?side2 A92.out).mono ?_); (case side1 => exact IsS99.below HI0.out lt_); (case side2 => exact below_at HB.out); rintro e w102 ⟨rfl, hi, hb, hk⟩; refine ⟨_, rfl, ?_⟩; replace HO_13 := mk_ (Kd.R_mono (Kd.R_keep (IsS99.apart (show IsS99 w0 _ g s0_0 t190 from IsS99.below HI0.out lt_) (Kd.R_below HO_13.out lt_) (by decide)) hk (fun _ h => h.2)) (fun _ h => h.1)); replace HK := mk_ (KeepBut.trans (keep_at HK.out) hk (.inl rfl)); replace HB := mk_ (hb); replace HI0 := mk_ (hi); (try clear hb)) | (refine gc_ 52 (some 121) Tryd.func52 #[.pointer (some ⟨g, 0, none⟩), .int .i64 3] ?_; (with_reducible refine (spec_l20Rd_pick.calls kj82 g s0_0 t195 3 t196 t197 w0 _ ?side1 ?side2 A94.out).mono ?_); (case side1 => exact IsS99.below HI0.out lt_); (case side2 => exact below_at HB.out); rintro e w103 ⟨rfl, hi, hb, hk⟩; refine ⟨_, rfl, ?_⟩; replace HO_13 := mk_ (Kd.R_mono (Kd.R_keep (IsS99.apart (show IsS99 w0 _ g s0_0 t195 from IsS99.below HI0.out lt_) (Kd.R_below HO_13.out lt_) (by decide)) hk (fun _ h => h.2)) (fun _ h => h.1)); replace HK := mk_ (KeepBut.trans (keep_at HK.out) hk (.inl rfl)); replace HB := mk_ (hb); replace HI0 := mk_ (hi); (try clear hb)) | ((with_reducible refine gate_builtin (b := .append) (xs := #[.tmp 132, .tmp 134]) rfl ?_); at_builtin; refine Kd.R_append k82 w.heap.size rfl (.tmp 132) (.tmp 134) 24 82 (.agg #[(.int .i64 0), (.int .i64 0)]) 16 rfl Tryd.underlying24 info82p rfl (by decide) (by omega) u13 x13_82 (⟨5, 0⟩ : S82) [.int .i64 5, .int .i64 0] (fun _ => True) (fun _ => False) rfl rfl ?aP (fun _ hk => hk.elim) ?aF ?aO (Below.refl _ _) ?aS ?aL ?_; (case aP => exact k82_mkM _ _ _ (⟨5, 0⟩ : S82)); (case aF => exact (fun _ _ => trivial)); (case aO => exact (Kd.R_below HO_13.out lt_)); (case aS => exact (keep_size (w := w) (g := g) (row := none) (keep_at HK.out))); (case aL => have := LMc101.out; omega); intro v202 w104 ho hb hg hat; rw [← Ny201.out] at ho; replace HI0 := mk_ (IsS99.grown (IsS99.below HI0.out lt_) hg (IsS99.own_ne HI0.out HO_13.out (by decide))); replace HB := mk_ (below_weaken (below_at HB.out) HL.out hb); replace HK := mk_ (KeepBut.trans (keep_at HK.out) (KeepBut.of_grown hg g) (Kd.R_base2 HO_13.out)); have HO203 := mk_ (ho); (try clear HO_13); clear ho hb hg hat))
      go_ret
      exact ⟨_, by first | rfl | (simp [errW_none, errW_some] <;> rfl) | (simp only [← hji4, ← hji5]; first | rfl | (simp [errW_none, errW_some] <;> rfl)) | (simp [*, errW_none, errW_some] <;> rfl), rl_ HO203.out, IsS99.below HI0.out lt_, below_at HB.out, keep_at HK.out⟩
     replace H := bm_ H; obtain ⟨⟨t204, t205⟩, A105, H⟩ := H
     try dsimp only at H
     revert H; refine g_ (fun c106 H => ?_)
     have c106b0 : decide (0 < (x13_82.length : Int)) = true := decide_eq_true c106
     have c106b1 : decide (0 < x13_82.length) = true := decide_eq_true (by omega)
     clear c106
     obtain ⟨y206, hy206⟩ : ∃ y_ : List (S82), y_ = (x13_82.set (0 : Int).toNat (⟨t204, 6⟩ : S82)) := ⟨_, rfl⟩
     first | (replace H := bn_ hy206 H; try dsimp only at H) | rw [← hy206] at H
     have Ny206 := mk_ hy206
     clear hy206
     simp only [Option.some.injEq, Prod.mk.injEq] at H
     obtain ⟨rfl, rfl⟩ := H
     go_wp2_with (first | (refine gc_ 55 (some 119) Tryd.func55 #[.pointer (some ⟨g, 0, none⟩), .int .i64 a2] ?_; (with_reducible refine (spec_l20Rd_odd.calls kj82 g s0_0 t190 a2 true t195 w0 _ ?side1 ?side2 A92.out).mono ?_); (case side1 => exact IsS99.below HI0.out lt_); (case side2 => exact below_at HB.out); rintro e w108 ⟨rfl, hi, hb, hk⟩; refine ⟨_, rfl, ?_⟩; replace HO_13 := mk_ (Kd.R_mono (Kd.R_keep (IsS99.apart (show IsS99 w0 _ g s0_0 t190 from IsS99.below HI0.out lt_) (Kd.R_below HO_13.out lt_) (by decide)) hk (fun _ h => h.2)) (fun _ h => h.1)); replace HK := mk_ (KeepBut.trans (keep_at HK.out) hk (.inl rfl)); replace HB := mk_ (hb); replace HI0 := mk_ (hi); (try clear hb)) | (refine gc_ 52 (some 121) Tryd.func52 #[.pointer (some ⟨g, 0, none⟩), .int .i64 3] ?_; (with_reducible refine (spec_l20Rd_pick.calls kj82 g s0_0 t195 3 t196 t197 w0 _ ?side1 ?side2 A94.out).mono ?_); (case side1 => exact IsS99.below HI0.out lt_); (case side2 => exact below_at HB.out); rintro e w109 ⟨rfl, hi, hb, hk⟩; refine ⟨_, rfl, ?_⟩; replace HO_13 := mk_ (Kd.R_mono (Kd.R_keep (IsS99.apart (show IsS99 w0 _ g s0_0 t195 from IsS99.below HI0.out lt_) (Kd.R_below HO_13.out lt_) (by decide)) hk (fun _ h => h.2)) (fun _ h => h.1)); replace HK := mk_ (KeepBut.trans (keep_at HK.out) hk (.inl rfl)); replace HB := mk_ (hb); replace HI0 := mk_ (hi); (try clear hb)) | (refine gc_ 52 (some 124) Tryd.func52 #[.pointer (some ⟨g, 0, none⟩), .int .i64 2] ?_; (with_reducible refine (spec_l20Rd_pick.calls kj82 g s0_0 t197 2 t204 t205 w0 _ ?side1 ?side2 A105.out).mono ?_); (case side1 => exact IsS99.below HI0.out lt_); (case side2 => exact below_at HB.out); rintro e w110 ⟨rfl, hi, hb, hk⟩; refine ⟨_, rfl, ?_⟩; replace HO_13 := mk_ (Kd.R_mono (Kd.R_keep (IsS99.apart (show IsS99 w0 _ g s0_0 t197 from IsS99.below HI0.out lt_) (Kd.R_below HO_13.out lt_) (by decide)) hk (fun _ h => h.2)) (fun _ h => h.1)); replace HK := mk_ (KeepBut.trans (keep_at HK.out) hk (.inl rfl)); replace HB := mk_ (hb); replace HI0 := mk_ (hi); (try clear hb); have p107 : 0 ≤ (0 : Int) := (by omega); have q107 : (0 : Int) < ((x13_82.length : Int) : Int) := oa_; have qi107 : (0 < x13_82.length) = True := eq_true (by omega); obtain ⟨go107, co107, eo107, gb107, gl107, cl107, HG107⟩ := Kd.R_form HO_13.out (by omega); (first | cases eo107 | (injection eo107 with ea_ en_ ec_; (first | subst ea_ | (injection ea_ with ea_; subst ea_)); subst ec_; clear en_)); have GB107 := mk_ gb107; have GG107 := mk_ HG107; clear gb107 gl107 HG107; obtain ⟨ce107, hcl107, hM107, hcc107, hfr107⟩ := Kd.R_elem HO_13.out z82 (0 : Int) p107 q107; obtain rfl := k82_openM hM107; have hx107_0 : w110.cell? ⟨go107, (0 : Int).toNat * 2, none⟩ = some (.int .i64 ((rd_T82 x13_82 0).f0)) := hcc107 0 _ rfl; have hx107_1 : w110.cell? ⟨go107, (0 : Int).toNat * 2 + 1, none⟩ = some (.int .i64 ((rd_T82 x13_82 0).f1)) := hcc107 1 _ rfl; have hf107_0 : w110.frozen? ⟨go107, (0 : Int).toNat * 2, none⟩ = false := hfr107 0; have hf107_1 : w110.frozen? ⟨go107, (0 : Int).toNat * 2 + 1, none⟩ = false := hfr107 1; (try clear hM107); clear hcl107 hcc107 hfr107; (try rw [show ((0 : Int)).toNat = 0 from rfl] at hx107_0); (try simp only [Nat.reduceMul, Nat.zero_mul, Nat.zero_add, Nat.reduceAdd] at hx107_0); (try rw [show ((0 : Int)).toNat = 0 from rfl] at hf107_0); (try simp only [Nat.reduceMul, Nat.zero_mul, Nat.zero_add, Nat.reduceAdd] at hf107_0); (try rw [show ((0 : Int)).toNat = 0 from rfl] at hx107_1); (try simp only [Nat.reduceMul, Nat.zero_mul, Nat.zero_add, Nat.reduceAdd] at hx107_1); (try rw [show ((0 : Int)).toNat = 0 from rfl] at hf107_1); (try simp only [Nat.reduceMul, Nat.zero_mul, Nat.zero_add, Nat.reduceAdd] at hf107_1); replace p107 := eq_true p107; replace q107 := eq_true q107; have HX111 := mk_ (show Kd.R k82 82 w110 w.heap.size (fun _ => True) (.slice (some ⟨go107, 0, none⟩) x13_82.length co107) x13_82 from (Kd.R_below HO_13.out lt_)); obtain ⟨ce111, hcl111, hM111, hcc111, hfr111⟩ := Kd.R_elem HX111.out z82 (0 : Int) (by omega) (by have h_ : (0 : Int) < ((x13_82.length : Int) : Int) := oa_; first | exact h_ | (have e_ := (Kd.R_reads' HO_13.out).1; omega) | simpa using h_); obtain rfl := k82_openM hM111; have HP111 := Kd.R_seg HX111.out (0 : Int) (by omega) (by have h_ : (0 : Int) < ((x13_82.length : Int) : Int) := oa_; first | exact h_ | (have e_ := (Kd.R_reads' HO_13.out).1; omega) | simpa using h_) (seg := [.int .i64 t204, .int .i64 6]) (j := 0) hcl111 hcc111 (show 2 ≤ 2 from by decide) (x' := (⟨t204, 6⟩ : S82)) (k82_mkM _ _ _ (⟨t204, 6⟩ : S82) ) (fun _ hk => hk); have hx111_0 := hcc111 0 _ rfl; (try simp only [show (k82).sz = 2 from rfl, Nat.mul_one, Nat.add_zero] at hx111_0); (try rw [show ((0 : Int)).toNat = 0 from rfl] at hx111_0); (try simp only [Nat.reduceMul, Nat.zero_mul, Nat.zero_add, Nat.reduceAdd] at hx111_0); have hf111_0 := hfr111 0; (try simp only [show (k82).sz = 2 from rfl, Nat.mul_one, Nat.add_zero] at hf111_0); (try rw [show ((0 : Int)).toNat = 0 from rfl] at hf111_0); (try simp only [Nat.reduceMul, Nat.zero_mul, Nat.zero_add, Nat.reduceAdd] at hf111_0); have hx111_1 := hcc111 1 _ rfl; (try simp only [show (k82).sz = 2 from rfl, Nat.mul_one, Nat.add_zero] at hx111_1); (try rw [show ((0 : Int)).toNat = 0 from rfl] at hx111_1); (try simp only [Nat.reduceMul, Nat.zero_mul, Nat.zero_add, Nat.reduceAdd] at hx111_1); have hf111_1 := hfr111 1; (try simp only [show (k82).sz = 2 from rfl, Nat.mul_one, Nat.add_zero] at hf111_1); (try rw [show ((0 : Int)).toNat = 0 from rfl] at hf111_1); (try simp only [Nat.reduceMul, Nat.zero_mul, Nat.zero_add, Nat.reduceAdd] at hf111_1); (try clear hM111); clear hcl111 hcc111 hfr111) | ((with_reducible refine gate_store (t := 82) (p := 126) rfl ?_); refine store_event (t := 82) (p := 126) (v := ?vo_w112) (w1 := ((w110.setCell ⟨go107, 0, none⟩ (.int .i64 t204)).setCell ⟨go107, 1, none⟩ (.int .i64 6))) ?hg ?ho ?hn ?hr ?_; (case ho => rfl); (case hg => rfl); (case hn => rfl); (case hr => first | (go_simp; done) | (go_simp; rfl)); intro w112 hw; have hg : w110.grownBy w112 (some go107) := (by rw [hw]; exact HP111.2); have hp_ : Kd.R k82 82 w112 w.heap.size (fun _ => True) (.slice (some ⟨go107, 0, none⟩) x13_82.length co107) y206 := (by rw [hw, Ny206.out]; exact HP111.1); clear HP111; replace HI0 := mk_ (IsS99.grown (IsS99.below HI0.out lt_) hg (IsS99.own_ne HI0.out HO_13.out (by decide))); replace HB := mk_ ((by rw [hw]; exact below_set (below_set (HB.out) (Nat.le_trans HL.out GB107.out)) (Nat.le_trans HL.out GB107.out) : Below w0.heap.size w0 w112)); replace HK := mk_ (KeepBut.trans (keep_at HK.out) (KeepBut.of_grown hg g) (Kd.R_base2 HO_13.out)); replace HO_13 := mk_ (hp_); clear hg hw hp_))
     go_ret
     exact ⟨_, by first | rfl | (simp [errW_none, errW_some] <;> rfl) | (simp only [← hji4, ← hji5]; first | rfl | (simp [errW_none, errW_some] <;> rfl)) | (simp [*, errW_none, errW_some] <;> rfl), rl_ HO_13.out, IsS99.below HI0.out lt_, below_at HB.out, keep_at HK.out⟩
   have c29b0 : decide (1 < (x7_2.length : Int)) = true := decide_eq_true c29
   have c29b1 : decide (1 < x7_2.length) = true := decide_eq_true (by omega)
   clear c29
   replace H := bm_ H; obtain ⟨⟨t129, t130⟩, A30, H⟩ := H
   try dsimp only at H
   have HC31 := mk_ H
   clear H
   obtain ⟨Ao32, co32, eo32⟩ := Kd.N_slice HO_7.out
   subst eo32
   go_upto_region 12 with (first | (refine gc_ 52 (some 52) Tryd.func52 #[.pointer (some ⟨g, 0, none⟩), .int .i64 (wrap64 ((x7_2.length : Int) - 1))] ?_; (with_reducible refine (spec_l20Rd_pick.calls k2 g s0_0 x1001_2 (wrap64 ((x7_2.length : Int) - 1)) t129 t130 w0 _ ?side1 ?side2 A30.out).mono ?_); (case side1 => exact IsS99.below HI0.out lt_); (case side2 => exact below_at HB.out); rintro e w33 ⟨rfl, hi, hb, hk⟩; refine ⟨_, rfl, ?_⟩; replace HO_7 := mk_ (Kd.N_mono (Kd.N_keep (Kd.N_mono (ok := fun k_ => k_ ≠ g) (Kd.N_below HO_7.out lt_) (fun k_ hk_ => (⟨hk_, hk_⟩ : _ ∧ k_ ≠ g))) hk (fun _ h => h.2)) (fun _ h => h.1)); replace HK := mk_ (KeepBut.trans (keep_at HK.out) hk (.inl rfl)); replace HB := mk_ (hb); replace HI0 := mk_ (hi); (try clear hb)))
   (try simp only [Act.put, z0_, z1_, z2_])
   go_cut [59] (fun v59 wc => ∃ (kq : Nat) (x59_30 : Bool) (x1001_30 : Int), v59 = .bool x59_30 ∧ Aside0 (spec_l20Term.j2 kq a2 x7_2 x9_2 t129 x59_30 s0_0 x1001_30 = some (r1, r2)) ∧ Aside0 (kq ≤ k2) ∧ Aside0 (Kd.N (ownd 82 k82 w.heap.size) 24 wc w.heap.size (fun k_ => k_ ≠ g) (.slice Ao32 x7_2.length co32) x7_2) ∧ Aside0 (IsS99 w0 wc g s0_0 x1001_30) ∧ Aside0 (KeepBut w wc g none) ∧ Aside0 (Below w0.heap.size w0 wc))
   case first =>
    have H := HC31.out
    clear HC31
    revert H; refine ti_ (df_g fun c34b0 H => ?_) (dt_g fun c34b0 H => ?_)
    ·(first | rw [c34b0] | (simp only [i64_w, i32_w]; rw [c34b0]) | skip)
     have H' := mk_ H
     clear H
     go_wp2
     go_meet
     case rel => exact ⟨_, (false), (t130), sm_, H', ⟨by have := HK1.out; have := HK2.out; first | omega | exact Nat.le_refl _⟩, ⟨Kd.N_below HO_7.out lt_⟩, ⟨IsS99.below HI0.out lt_⟩, ⟨keep_at HK.out⟩, ⟨below_at HB.out⟩⟩
    (first | rw [c34b0] | (simp only [i64_w, i32_w]; rw [c34b0]) | skip)
    replace H := bm_ H; obtain ⟨⟨t131, t132⟩, A35, H⟩ := H
    try dsimp only at H
    have H' := mk_ H
    clear H
    go_wp2_with (first | (go_at_call 52; (with_reducible refine (spec_l20Rd_pick.calls k2 g s0_0 t130 4 t131 t132 w0 _ ?side1 ?side2 A35.out).mono ?_); (case side1 => exact IsS99.below HI0.out lt_); (case side2 => exact below_at HB.out); rintro e w36 ⟨rfl, hi, hb, hk⟩; replace HO_7 := mk_ (Kd.N_mono (Kd.N_keep (Kd.N_mono (ok := fun k_ => k_ ≠ g) (Kd.N_below HO_7.out lt_) (fun k_ hk_ => (⟨hk_, hk_⟩ : _ ∧ k_ ≠ g))) hk (fun _ h => h.2)) (fun _ h => h.1)); replace HK := mk_ (KeepBut.trans (keep_at HK.out) hk (.inl rfl)); replace HB := mk_ (hb); replace HI0 := mk_ (hi); (try clear hb)))
    go_meet
    case rel => exact ⟨_, ((t131 == 0)), (t132), sm_, H', ⟨by have := HK1.out; have := HK2.out; first | omega | exact Nat.le_refl _⟩, ⟨Kd.N_below HO_7.out lt_⟩, ⟨IsS99.below HI0.out lt_⟩, ⟨keep_at HK.out⟩, ⟨below_at HB.out⟩⟩
   clear HC31
   try clear c1
   try clear c2
   try clear p2
   try clear c3
   try clear c5
   try clear p6
   try clear c7
   try clear c10
   try clear c10b0
   try clear c12
   try clear c12b0
   try clear c12b1
   try clear c14
   try clear c22
   try clear c29
   try clear c29b0
   try clear c29b1
   try clear c34
   try clear c34b0
   try clear p2
   try clear p6
   obtain ⟨kq, x59_30, x1001_30, rfl, HA, HJ30, HO_7, HI0, HK, HB⟩ := hcut
   cases kq with
   | zero => exact absurd HA.out (by simp [spec_l20Term.j2])
   | succ kj30 =>
    have H := HA.out
    clear HA
    simp only [spec_l20Term.j2] at H
    by_cases c37 : x59_30 = true
    ·subst c37
     have H1 : ((some (([] : List (S82)) : List (S82))).bind fun y133 => (if 0 ≤ t129 then (if t129 < (x7_2.length : Int) then (if y133.length + (rd_Lparts x7_2 t129).length < 8796093022208 then ((some (y133 ++ (rd_Lparts x7_2 t129) : List (S82))).bind fun y137 => (if y137.length < 8796093022208 then (spec_l20Term.l1 kj30 a2 (x7_2.set (t129 : Int).toNat (y137 ++ [(⟨2, 0⟩ : S82)])) (wrap64 (x9_2 - 1)) s0_0 x1001_30) else (none))) else (none)) else (none)) else (none))) = some (r1, r2) := by rw [if_pos rfl] at H; exact H
     clear H
     have H := H1
     clear H1
     obtain ⟨y133, hy133⟩ : ∃ y_ : List (S82), y_ = (([] : List (S82))) := ⟨_, rfl⟩
     replace H : (if 0 ≤ t129 then (if t129 < (x7_2.length : Int) then (if y133.length + (rd_Lparts x7_2 t129).length < 8796093022208 then ((some (y133 ++ (rd_Lparts x7_2 t129) : List (S82))).bind fun y137 => (if y137.length < 8796093022208 then (spec_l20Term.l1 kj30 a2 (x7_2.set (t129 : Int).toNat (y137 ++ [(⟨2, 0⟩ : S82)])) (wrap64 (x9_2 - 1)) s0_0 x1001_30) else (none))) else (none)) else (none)) else (none)) = some (r1, r2) := by first | (rw [hy133]; exact H) | exact H
     have Ny133 := mk_ hy133
     clear hy133
     revert H; refine g_ (dt_ fun c38b0 => g_ (dt_ fun c39b0 => g_ (mt_ fun LMc40 H => ?_)))
     obtain ⟨y137, hy137⟩ : ∃ y_ : List (S82), y_ = (y133 ++ (rd_Lparts x7_2 t129)) := ⟨_, rfl⟩
     first | (replace H := bn_ hy137 H; try dsimp only at H) | rw [← hy137] at H
     have Ny137 := mk_ hy137
     clear hy137
     revert H; refine g_ (mt_ fun LMc41 H => ?_)
     obtain ⟨y140, hy140⟩ : ∃ y_ : List (S82), y_ = (y137 ++ [(⟨2, 0⟩ : S82)]) := ⟨_, rfl⟩
     first | (replace H := bn_ hy140 H; try dsimp only at H) | rw [← hy140] at H
     have Ny140 := mk_ hy140
     clear hy140
     obtain ⟨y143, hy143⟩ : ∃ y_ : List (List (S82)), y_ = (x7_2.set (t129 : Int).toNat y140) := ⟨_, rfl⟩
     first | (replace H := bn_ hy143 H; try dsimp only at H) | rw [← hy143] at H
     have Ny143 := mk_ hy143
     clear hy143
     have H' := mk_ H
     clear H
     go_wp2_with (first | ((with_reducible refine gate_dst (N := 64) rfl ?_); refine Kd.R_lit k82 _ 82 ?hg (N := 64) ?hd (xs := ([] : List (S82))) (inner := []) (ok := fun _ => True) (okp := fun _ => True) ?hr ?hp (fun _ hk => hk) trivial (Below.refl _ _) (Nat.le_refl _) (by simp) ?_; (case hd => rfl); (case hg => rfl); (case hr => first | (go_simp; done) | (go_simp; rfl)); (case hp => exact (Reps.none _ _)); intro v134 w43 ho44 hb hg_ hnew_; clear hg_ hnew_; (first | rw [← Ny133.out] at ho44 | (simp only [Int.reduceToNat] at ho44; rw [← Ny133.out] at ho44)); replace HO_7 := mk_ (Kd.N_elder' (Kd.N_below HO_7.out lt_) (Kd.R_base ho44) hb); have HO135 := mk_ (Kd.R_lower ho44 (keep_size (w := w) (g := g) (row := none) (keep_at HK.out))); replace HI0 := mk_ (IsS99.below (IsS99.below HI0.out lt_) hb); replace HK := mk_ (KeepBut.trans (keep_at HK.out) (KeepBut.of_below hb g none) (.inl rfl)); replace HB := mk_ (below_step (below_at HB.out) hb); clear hb ho44; have p136 : 0 ≤ (t129 : Int) := oa_; have q136 : t129 < (x7_2.length : Int) := oa_; obtain ⟨ad136, A136_0, c136_0, e136, hx136_0, hl136_0, hi136_0⟩ := at_Lparts (own_C (Kd.N_reads' HO_7.out).2.2) t129 p136 q136; cases e136; obtain ⟨ce136, hce136, hMe136, hcc136⟩ := Kd.N_get HO_7.out [] t129 p136 (by first | exact q136 | exact oa_ | (have e_ := (Kd.N_reads' HO_7.out).1; omega)); obtain ⟨ua136_0, uc136_0, rfl, ul136_0, ge136_0⟩ := FK_own_open hMe136; have hv136_0 := hcc136 0 _ rfl; rw [Nat.add_zero, show ((ownd 82 k82 w.heap.size)).sz = 1 from rfl, Nat.mul_one] at hv136_0; replace hv136_0 := Option.some.inj (hv136_0.symm.trans hx136_0); injection hv136_0 with hva_ hvn_ hvc_; rw [hva_] at ge136_0; rw [hvc_] at ul136_0; have HL136_0 := mk_ (show Kd.V k82 82 _ w.heap.size _ _ (rd_Lparts x7_2 t129) from Kd.V_mk ul136_0 ge136_0); clear hva_ hvn_ hvc_ ge136_0 ul136_0; clear hcc136 hce136; have HR136_0 := mk_ hi136_0; have HC136_0 := mk_ hl136_0; clear hi136_0 hl136_0; replace p136 := eq_true p136; replace q136 := eq_true q136) | ((with_reducible refine gate_builtin (b := .append) (xs := #[.tmp 64, .tmp 68]) rfl ?_); at_builtin; refine Kd.R_append_rows k82 w.heap.size rfl (.tmp 64) (.tmp 68) 24 82 (.agg #[(.int .i64 0), (.int .i64 0)]) 16 rfl Tryd.underlying24 info82p rfl (by decide) (by omega) v134 y133 (rd_Lparts x7_2 t129) _ _ _ (fun _ => True) (fun _ => False) rfl rfl ?aO ?aR (fun _ _ h => h) (fun _ h => h.elim) ?aF (Below.refl _ _) ?aS ?aL ?_; (case aR => repeat (first | exact (Kd.C_below HR136_0.out lt_) | (with_reducible refine Kd.C_alloc ?_ _) | (with_reducible refine Kd.C_drewN ?_ _) | (with_reducible refine Kd.C_drew ?_))); (case aF => exact (fun _ _ => trivial)); (case aO => exact (Kd.R_below HO135.out lt_)); (case aS => exact (keep_size (w := w) (g := g) (row := none) (keep_at HK.out))); (case aL => have := LMc40.out; omega); intro v138 w45 ho hb hg hat; rw [← Ny137.out] at ho; replace HO_7 := mk_ (Kd.N_afterv (ok := (fun k_ => k_ ≠ g)) (Kd.N_below HO_7.out lt_) hg hat); replace HI0 := mk_ (IsS99.grown (IsS99.below HI0.out lt_) hg (IsS99.own_ne HI0.out HO135.out (by decide))); replace HB := mk_ (below_weaken (below_at HB.out) HL.out hb); replace HK := mk_ (KeepBut.trans (keep_at HK.out) (KeepBut.of_grown hg g) (Kd.R_base2 HO135.out)); have HO139 := mk_ (ho); (try clear HL136_0 HO135); clear ho hb hg hat) | ((with_reducible refine gate_builtin (b := .append) (xs := #[.tmp 69, .tmp 71]) rfl ?_); at_builtin; refine Kd.R_append k82 w.heap.size rfl (.tmp 69) (.tmp 71) 24 82 (.agg #[(.int .i64 0), (.int .i64 0)]) 16 rfl Tryd.underlying24 info82p rfl (by decide) (by omega) v138 y137 (⟨2, 0⟩ : S82) [.int .i64 2, .int .i64 0] (fun _ => True) (fun _ => False) rfl rfl ?aP (fun _ hk => hk.elim) ?aF ?aO (Below.refl _ _) ?aS ?aL ?_; (case aP => exact k82_mkM _ _ _ (⟨2, 0⟩ : S82)); (case aF => exact (fun _ _ => trivial)); (case aO => exact (Kd.R_below HO139.out lt_)); (case aS => exact (keep_size (w := w) (g := g) (row := none) (keep_at HK.out))); (case aL => have := LMc41.out; omega); intro v141 w46 ho hb hg hat; rw [← Ny140.out] at ho; replace HO_7 := mk_ (Kd.N_afterv (ok := (fun k_ => k_ ≠ g)) (Kd.N_below HO_7.out lt_) hg hat); replace HI0 := mk_ (IsS99.grown (IsS99.below HI0.out lt_) hg (IsS99.own_ne HI0.out HO139.out (by decide))); replace HB := mk_ (below_weaken (below_at HB.out) HL.out hb); replace HK := mk_ (KeepBut.trans (keep_at HK.out) (KeepBut.of_grown hg g) (Kd.R_base2 HO139.out)); have HO142 := mk_ (ho); (try clear HL136_0 HO139); clear ho hb hg hat; have p42 : 0 ≤ (t129 : Int) := oa_; have q42 : (t129 : Int) < ((x7_2.length : Int) : Int) := oa_; obtain ⟨go42, co42, eo42, gb42, gl42, cl42, HG42⟩ := Kd.N_form HO_7.out (by omega); (first | cases eo42 | (injection eo42 with ea_ en_ ec_; (first | subst ea_ | (injection ea_ with ea_; subst ea_)); subst ec_; clear en_)); have GB42 := mk_ gb42; have GG42 := mk_ HG42; clear gb42 gl42 HG42; (first | simp only [add_plain] at hx136_0 | skip); obtain ⟨ce42, hcl42, hM42, hcc42, hfr42⟩ := Kd.N_elem HO_7.out [] (t129 : Int) p42 q42; obtain ⟨ua42_0, uc42_0, rfl, ul42_0, ge42_0⟩ := FK_own_open hM42; have hx42_0 := hcc42 0 _ rfl; have hf42_0 := hfr42 0; (try simp only [show ((ownd 82 k82 w.heap.size)).sz = 1 from rfl, Nat.mul_one, Nat.add_zero] at hx42_0); (try simp only [show ((ownd 82 k82 w.heap.size)).sz = 1 from rfl, Nat.mul_one, Nat.add_zero] at hf42_0); (try clear hM42); clear hcl42 hcc42 hfr42; replace p42 := eq_true p42; replace q42 := eq_true q42; have HX47 := mk_ (show Kd.N (ownd 82 k82 w.heap.size) 24 w46 w.heap.size (fun k_ => k_ ≠ g) (.slice (some ⟨go42, 0, none⟩) x7_2.length co32) x7_2 from (Kd.N_below (Kd.N_mono HO_7.out (fun _ hk => hk.1)) lt_)); obtain ⟨ce47, hcl47, hM47, hcc47, hfr47⟩ := Kd.N_elem HX47.out [] (t129 : Int) (oa_) (by have h_ : (t129 : Int) < ((x7_2.length : Int) : Int) := oa_; first | exact h_ | (have e_ := (Kd.N_reads' HO_7.out).1; omega) | simpa using h_); obtain ⟨ua47_0, uc47_0, rfl, ul47_0, ge47_0⟩ := FK_own_open hM47; have HP47 := Kd.N_seg HX47.out (t129 : Int) (oa_) (by have h_ : (t129 : Int) < ((x7_2.length : Int) : Int) := oa_; first | exact h_ | (have e_ := (Kd.N_reads' HO_7.out).1; omega) | simpa using h_) (seg := [v141]) (j := 0) hcl47 hcc47 (show 1 ≤ 1 from by decide) (x' := y140) (FK_own_mk (Kd.R_mono (ok' := (fun k_ => ((fun k_ => k_ ≠ g)) k_ ∧ k_ ≠ go42)) (IsS99.apart HI0.out (Kd.R_apart' (HO142.out) (Kd.N_typed HO_7.out) (by decide)) (by decide)) (fun k_ hk => ⟨hk.2, fun e_ => (hk.1.2) (by rw [e_]; rfl)⟩))) (fun _ hk => hk); have hx47_0 := hcc47 0 _ rfl; (try simp only [show ((ownd 82 k82 w.heap.size)).sz = 1 from rfl, Nat.mul_one, Nat.add_zero] at hx47_0); have hf47_0 := hfr47 0; (try simp only [show ((ownd 82 k82 w.heap.size)).sz = 1 from rfl, Nat.mul_one, Nat.add_zero] at hf47_0); (try clear hM47); clear hcl47 hcc47 hfr47; (try simp only [show ((ownd 82 k82 w.heap.size)).sz = 1 from rfl, Nat.mul_one, Nat.add_zero] at HP47); (try simp only [show ((ownd 82 k82 w.heap.size)).sz = 1 from rfl, Nat.mul_one, Nat.add_zero] at HP47)) | ((with_reducible refine gate_store (t := 24) (p := 73) rfl ?_); refine store_event (t := 24) (p := 73) (v := ?vo_w48) (w1 := (w46.setCell ⟨go42, (t129 : Int).toNat, none⟩ (v141))) ?hg ?ho ?hn ?hr ?_; (case ho => rfl); (case hg => rfl); (case hn => rfl); (case hr => first | (go_simp; done) | (go_simp; rfl) | (obtain ⟨_, _, e_⟩ := Kd.R_slice HO142.out; subst e_; first | (go_simp; done) | (go_simp; rfl))); intro w48 hw; have hg : w46.grownBy w48 (some go42) := (by rw [hw]; exact HP47.2); have hp_ : Kd.N (ownd 82 k82 w.heap.size) 24 w48 w.heap.size (fun k_ => k_ ≠ g) (.slice (some ⟨go42, 0, none⟩) x7_2.length co32) y143 := (by rw [hw, Ny143.out]; exact HP47.1); clear HP47; replace HI0 := mk_ (IsS99.grown (IsS99.below HI0.out lt_) hg (IsS99.own_neN HI0.out HO_7.out (by decide))); replace HB := mk_ ((by rw [hw]; exact below_set (HB.out) (Nat.le_trans HL.out GB42.out) : Below w0.heap.size w0 w48)); replace HK := mk_ (KeepBut.trans (keep_at HK.out) (KeepBut.of_grown hg g) (Kd.N_base2 HO_7.out)); replace HO_7 := mk_ (hp_); (try clear HL136_0 HO142); clear hg hw hp_))
     go_roundg kj30
     case measure => have := HK1.out; have := HK2.out; have := HJ30.out; omega
     case rel => exact ⟨(y143), (wrap64 (x9_2 - 1)), (x1001_30), sm_, H', ⟨by have := HK1.out; have := HK2.out; have := HJ30.out; omega⟩, ⟨Kd.N_below HO_7.out lt_⟩, ⟨IsS99.below HI0.out lt_⟩, ⟨keep_at HK.out⟩, ⟨below_at HB.out⟩⟩
    replace c37 := Bool.eq_false_iff.mpr c37
    subst c37
    have H1 : ((some (([] : List (S82)) : List (S82))).bind fun y144 => (if 0 ≤ t129 then (if t129 < (x7_2.length : Int) then (if y144.length + (rd_Lparts x7_2 t129).length < 8796093022208 then ((some (y144 ++ (rd_Lparts x7_2 t129) : List (S82))).bind fun y148 => (if 0 ≤ (wrap64 (t129 + 1)) then (if (wrap64 (t129 + 1)) < (x7_2.length : Int) then (if y148.length + (rd_Lparts x7_2 (wrap64 (t129 + 1))).length < 8796093022208 then ((some (y148 ++ (rd_Lparts x7_2 (wrap64 (t129 + 1))) : List (S82))).bind fun y152 => ((spec_l20Rd_pick.f kj30 s0_0 x1001_30 3).bind fun bt155 => (if y152.length < 8796093022208 then ((some (([] : List (List (S82))) : List (List (S82)))).bind fun y160 => (if t129 ≤ (x7_2.length : Int) then ((some (x7_2.take (t129 : Int).toNat : List (List (S82)))).bind fun y163 => (if y160.length + y163.length < 5864062014805 then ((some (y160 ++ y163 : List (List (S82)))).bind fun y168 => (if y168.length < 5864062014805 then ((some (y168 ++ [(y152 ++ [(⟨wrap64 (3 + bt155.1), 0⟩ : S82)])] : List (List (S82)))).bind fun y171 => (if 0 ≤ (wrap64 (t129 + 2)) then (if (wrap64 (t129 + 2)) ≤ (x7_2.length : Int) then ((some (x7_2.drop ((wrap64 (t129 + 2)) : Int).toNat : List (List (S82)))).bind fun y174 => (if y171.length + y174.length < 5864062014805 then (spec_l20Term.l1 kj30 a2 (y171 ++ y174) x9_2 s0_0 bt155.2) else (none))) else (none)) else (none))) else (none))) else (none))) else (none))) else (none)))) else (none)) else (none)) else (none))) else (none)) else (none)) else (none))) = some (r1, r2) := by rw [if_neg Bool.false_ne_true] at H; exact H
    clear H
    have H := H1
    clear H1
    obtain ⟨y144, hy144⟩ : ∃ y_ : List (S82), y_ = (([] : List (S82))) := ⟨_, rfl⟩
    replace H : (if 0 ≤ t129 then (if t129 < (x7_2.length : Int) then (if y144.length + (rd_Lparts x7_2 t129).length < 8796093022208 then ((some (y144 ++ (rd_Lparts x7_2 t129) : List (S82))).bind fun y148 => (if 0 ≤ (wrap64 (t129 + 1)) then (if (wrap64 (t129 + 1)) < (x7_2.length : Int) then (if y148.length + (rd_Lparts x7_2 (wrap64 (t129 + 1))).length < 8796093022208 then ((some (y148 ++ (rd_Lparts x7_2 (wrap64 (t129 + 1))) : List (S82))).bind fun y152 => ((spec_l20Rd_pick.f kj30 s0_0 x1001_30 3).bind fun bt155 => (if y152.length < 8796093022208 then ((some (([] : List (List (S82))) : List (List (S82)))).bind fun y160 => (if t129 ≤ (x7_2.length : Int) then ((some (x7_2.take (t129 : Int).toNat : List (List (S82)))).bind fun y163 => (if y160.length + y163.length < 5864062014805 then ((some (y160 ++ y163 : List (List (S82)))).bind fun y168 => (if y168.length < 5864062014805 then ((some (y168 ++ [(y152 ++ [(⟨wrap64 (3 + bt155.1), 0⟩ : S82)])] : List (List (S82)))).bind fun y171 => (if 0 ≤ (wrap64 (t129 + 2)) then (if (wrap64 (t129 + 2)) ≤ (x7_2.length : Int) then ((some (x7_2.drop ((wrap64 (t129 + 2)) : Int).toNat : List (List (S82)))).bind fun y174 => (if y171.length + y174.length < 5864062014805 then (spec_l20Term.l1 kj30 a2 (y171 ++ y174) x9_2 s0_0 bt155.2) else (none))) else (none)) else (none))) else (none))) else (none))) else (none))) else (none)))) else (none)) else (none)) else (none))) else (none)) else (none)) else (none)) = some (r1, r2) := by first | (rw [hy144]; exact H) | exact H
    have Ny144 := mk_ hy144
    clear hy144
    revert H; refine g_ (dt_ fun c49b0 => g_ (dt_ fun c50b0 => g_ (mt_ fun LMc51 H => ?_)))
    obtain ⟨y148, hy148⟩ : ∃ y_ : List (S82), y_ = (y144 ++ (rd_Lparts x7_2 t129)) := ⟨_, rfl⟩
    first | (replace H := bn_ hy148 H; try dsimp only at H) | rw [← hy148] at H
    have Ny148 := mk_ hy148
    clear hy148
    obtain ⟨ji52, hji52⟩ : ∃ j_ : Int, (wrap64 (t129 + 1)) = j_ := ⟨_, rfl⟩
    first | rw [hji52] at H | simp only [hji52] at H
    have hji52w : (IntKind.i64.wrap (t129 + 1)) = ji52 := (i64_w _).trans hji52
    revert H; refine g_ (dt_ fun c53b0 => g_ (dt_ fun c54b0 => g_ (mt_ fun LMc55 H => ?_)))
    obtain ⟨y152, hy152⟩ : ∃ y_ : List (S82), y_ = (y148 ++ (rd_Lparts x7_2 (ji52))) := ⟨_, rfl⟩
    first | (replace H := bn_ hy152 H; try dsimp only at H) | rw [← hy152] at H
    have Ny152 := mk_ hy152
    clear hy152
    replace H := bm_ H; obtain ⟨⟨t155, t156⟩, A56, H⟩ := H
    try dsimp only at H
    revert H; refine g_ (mt_ fun LMc57 H => ?_)
    obtain ⟨y157, hy157⟩ : ∃ y_ : List (S82), y_ = (y152 ++ [(⟨wrap64 (3 + t155), 0⟩ : S82)]) := ⟨_, rfl⟩
    first | (replace H := bn_ hy157 H; try dsimp only at H) | rw [← hy157] at H
    have Ny157 := mk_ hy157
    clear hy157
    obtain ⟨y160, hy160⟩ : ∃ y_ : List (List (S82)), y_ = (([] : List (List (S82)))) := ⟨_, rfl⟩
    replace H : (if t129 ≤ (x7_2.length : Int) then ((some (x7_2.take (t129 : Int).toNat : List (List (S82)))).bind fun y163 => (if y160.length + y163.length < 5864062014805 then ((some (y160 ++ y163 : List (List (S82)))).bind fun y168 => (if y168.length < 5864062014805 then ((some (y168 ++ [y157] : List (List (S82)))).bind fun y171 => (if 0 ≤ (wrap64 (t129 + 2)) then (if (wrap64 (t129 + 2)) ≤ (x7_2.length : Int) then ((some (x7_2.drop ((wrap64 (t129 + 2)) : Int).toNat : List (List (S82)))).bind fun y174 => (if y171.length + y174.length < 5864062014805 then (spec_l20Term.l1 kj30 a2 (y171 ++ y174) x9_2 s0_0 t156) else (none))) else (none)) else (none))) else (none))) else (none))) else (none)) = some (r1, r2) := by first | (rw [hy160]; exact H) | exact H
    have Ny160 := mk_ hy160
    clear hy160
    have c58b0 := eq_true (oa_ : 0 ≤ t129)
    revert H; refine g_ (et_ fun c59b0 c59b1 H => ?_)
    obtain ⟨y163, hy163⟩ : ∃ y_ : List (List (S82)), y_ = (x7_2.take (t129 : Int).toNat) := ⟨_, rfl⟩
    first | (replace H := bn_ hy163 H; try dsimp only at H) | rw [← hy163] at H
    have Ny163 := mk_ hy163
    clear hy163
    revert H; refine g_ (mt_ fun LMc60 H => ?_)
    obtain ⟨y168, hy168⟩ : ∃ y_ : List (List (S82)), y_ = (y160 ++ y163) := ⟨_, rfl⟩
    first | (replace H := bn_ hy168 H; try dsimp only at H) | rw [← hy168] at H
    have Ny168 := mk_ hy168
    clear hy168
    revert H; refine g_ (mt_ fun LMc61 H => ?_)
    obtain ⟨y171, hy171⟩ : ∃ y_ : List (List (S82)), y_ = (y168 ++ [y157]) := ⟨_, rfl⟩
    first | (replace H := bn_ hy171 H; try dsimp only at H) | rw [← hy171] at H
    have Ny171 := mk_ hy171
    clear hy171
    obtain ⟨ji62, hji62⟩ : ∃ j_ : Int, (wrap64 (t129 + 2)) = j_ := ⟨_, rfl⟩
    first | rw [hji62] at H | simp only [hji62] at H
    (try rw [hji62] at A56)
    have hji62w : (IntKind.i64.wrap (t129 + 2)) = ji62 := (i64_w _).trans hji62
    revert H; refine g_ (et_ fun c63b0 c63b1 => g_ (et_ fun c64b0 c64b1 H => ?_))
    obtain ⟨y174, hy174⟩ : ∃ y_ : List (List (S82)), y_ = (x7_2.drop ((ji62) : Int).toNat) := ⟨_, rfl⟩
    first | (replace H := bn_ hy174 H; try dsimp only at H) | rw [← hy174] at H
    have Ny174 := mk_ hy174
    clear hy174
    revert H; refine g_ (mt_ fun LMc65 H => ?_)
    obtain ⟨y179, hy179⟩ : ∃ y_ : List (List (S82)), y_ = (y171 ++ y174) := ⟨_, rfl⟩
    first | (replace H := bn_ hy179 H; try dsimp only at H) | rw [← hy179] at H
    have Ny179 := mk_ hy179
    clear hy179
    have H' := mk_ H
    clear H
    try go_wp2
    replace HO_7 := mk_ (Kd.N_drew HO_7.out)
    replace HI0 := mk_ (IsS99.drew HI0.out)
    replace HK := mk_ (keep_drew HK.out)
    replace HB := mk_ (below_drew1 HB.out)
    have p147 : 0 ≤ (t129 : Int) := oa_
    have q147 : t129 < (x7_2.length : Int) := oa_
    obtain ⟨ad147, A147_0, c147_0, e147, hx147_0, hl147_0, hi147_0⟩ := at_Lparts (own_C (Kd.N_reads' HO_7.out).2.2) t129 p147 q147
    cases e147
    obtain ⟨ce147, hce147, hMe147, hcc147⟩ := Kd.N_get HO_7.out [] t129 p147 (by first | exact q147 | exact oa_ | (have e_ := (Kd.N_reads' HO_7.out).1; omega))
    obtain ⟨ua147_0, uc147_0, rfl, ul147_0, ge147_0⟩ := FK_own_open hMe147
    have hv147_0 := hcc147 0 _ rfl
    rw [Nat.add_zero, show ((ownd 82 k82 w.heap.size)).sz = 1 from rfl, Nat.mul_one] at hv147_0
    replace hv147_0 := Option.some.inj (hv147_0.symm.trans hx147_0)
    injection hv147_0 with hva_ hvn_ hvc_
    rw [hva_] at ge147_0
    rw [hvc_] at ul147_0
    have HL147_0 := mk_ (show Kd.V k82 82 _ w.heap.size _ _ (rd_Lparts x7_2 t129) from Kd.V_mk ul147_0 ge147_0)
    clear hva_ hvn_ hvc_ ge147_0 ul147_0
    clear hcc147 hce147
    have HR147_0 := mk_ hi147_0
    have HC147_0 := mk_ hl147_0
    clear hi147_0 hl147_0
    replace p147 := eq_true p147
    replace q147 := eq_true q147
    have p151 : 0 ≤ ((ji52) : Int) := oa_
    have q151 : (ji52) < (x7_2.length : Int) := oa_
    obtain ⟨ad151, A151_0, c151_0, e151, hx151_0, hl151_0, hi151_0⟩ := at_Lparts (own_C (Kd.N_reads' HO_7.out).2.2) (ji52) p151 q151
    obtain rfl : ad147 = ad151 := (by injection e151)
    obtain ⟨ce151, hce151, hMe151, hcc151⟩ := Kd.N_get HO_7.out [] (ji52) p151 (by first | exact q151 | exact oa_ | (have e_ := (Kd.N_reads' HO_7.out).1; omega))
    obtain ⟨ua151_0, uc151_0, rfl, ul151_0, ge151_0⟩ := FK_own_open hMe151
    have hv151_0 := hcc151 0 _ rfl
    rw [Nat.add_zero, show ((ownd 82 k82 w.heap.size)).sz = 1 from rfl, Nat.mul_one] at hv151_0
    replace hv151_0 := Option.some.inj (hv151_0.symm.trans hx151_0)
    injection hv151_0 with hva_ hvn_ hvc_
    rw [hva_] at ge151_0
    rw [hvc_] at ul151_0
    have HL151_0 := mk_ (show Kd.V k82 82 _ w.heap.size _ _ (rd_Lparts x7_2 (ji52)) from Kd.V_mk ul151_0 ge151_0)
    clear hva_ hvn_ hvc_ ge151_0 ul151_0
    clear hcc151 hce151
    have HR151_0 := mk_ hi151_0
    have HC151_0 := mk_ hl151_0
    clear hi151_0 hl151_0
    replace p151 := eq_true p151
    replace q151 := eq_true q151
    refine start_ (n := 19) (S := fun w' => w'.cell? (ad147.add (t129).toNat) = some (.slice A147_0 (rd_Lparts x7_2 t129).length c147_0) ∧ w'.cell? (ad147.add ((ji52)).toNat) = some (.slice A151_0 (rd_Lparts x7_2 (ji52)).length c151_0)) (ds := [11, 13, 16, 17]) #[false, false, false, false, false, false, false, false, false, false, false, false, false, false, false, false, false, false, false] (by kernel_rfl) rfl rfl ⟨hx147_0, hx151_0⟩ (fun hHeld => ?_)
    generalize wc.drew = wd_ at HO_7 HI0 HK HB HL147_0 HL151_0 HR147_0 HR151_0 hx147_0 hx151_0 hHeld ⊢
    refine pur_ 1 (some 75) #[false, true, false, false, false, false, false, false, false, false, false, false, false, false, false, false, false, false, false] (by kernel_rfl) ?_
    refine pur_ 2 (some 76) #[false, true, true, false, false, false, false, false, false, false, false, false, false, false, false, false, false, false, false] (by kernel_rfl) ?_
    refine pur_ 3 (some 77) #[false, true, true, true, false, false, false, false, false, false, false, false, false, false, false, false, false, false, false] (by kernel_rfl) ?_
    refine pur_ 6 (some 80) #[false, true, true, true, false, false, true, false, false, false, false, false, false, false, false, false, false, false, false] (by kernel_rfl) ?_
    refine pur_ 7 (some 81) #[false, true, true, true, false, false, true, true, false, false, false, false, false, false, false, false, false, false, false] (by kernel_rfl) ?_
    refine pur_ 8 (some 82) #[false, true, true, true, false, false, true, true, true, false, false, false, false, false, false, false, false, false, false] (by kernel_rfl) ?_
    refine pur_ 9 (some 83) #[false, true, true, true, false, false, true, true, true, true, false, false, false, false, false, false, false, false, false] (by kernel_rfl) ?_
    refine pur_ 12 (some 86) #[false, true, true, true, false, false, true, true, true, true, false, false, true, false, false, false, false, false, false] (by kernel_rfl) ?_
    refine tak_ 4 (some 78) #[false, true, true, true, true, false, true, true, true, true, false, false, true, false, false, false, false, false, false] (by kernel_rfl) hHeld ?_
    refine tak_ 10 (some 84) #[false, true, true, true, true, false, true, true, true, true, true, false, true, false, false, false, false, false, false] (by kernel_rfl) hHeld ?_
    refine one_ (i := 0) (N := some 74) #[true, true, true, true, true, false, true, true, true, true, true, false, true, false, false, false, false, false, false] rfl rfl (by kernel_rfl) (by decide) (fun K hK => ?_)
    refine Kd.R_lit_step k82 _ 82 (by rfl) (N := 74) rfl (xs := ([] : List (S82))) (inner := []) (ok := fun _ => True) (okp := fun _ => True) ?hr ?hp (fun _ hk => hk) trivial (Below.refl _ _) (Nat.le_refl _) (by simp) ?_
    (case hr => first | (go_simp; done) | (go_simp; rfl))
    (case hp => exact (Reps.none _ _))
    intro v145 w66 ho67 hb hg_ hnew_
    clear hg_ hnew_
    (first | rw [← Ny144.out] at ho67 | (simp only [Int.reduceToNat] at ho67; rw [← Ny144.out] at ho67))
    have nl1_ := mk_ (Kd.V_elder' HL147_0.out (Kd.R_base ho67) hb)
    have nl2_ := mk_ (Kd.V_elder' HL151_0.out (Kd.R_base ho67) hb)
    have ns1_ := cell_old hHeld.1 hb
    have ns2_ := cell_old hHeld.2 hb
    clear HL147_0
    clear HL151_0
    clear hHeld
    have HL147_0 := nl1_
    have HL151_0 := nl2_
    clear nl1_ nl2_
    replace HO_7 := mk_ (Kd.N_elder' (Kd.N_below HO_7.out lt_) (Kd.R_base ho67) hb)
    have HO146 := mk_ (Kd.R_lower ho67 (keep_size (w := w) (g := g) (row := none) (keep_at HK.out)))
    replace HI0 := mk_ (IsS99.below (IsS99.below HI0.out lt_) hb)
    replace HK := mk_ (KeepBut.trans (keep_at HK.out) (KeepBut.of_below hb g none) (.inl rfl))
    replace HB := mk_ (below_step (below_at HB.out) hb)
    clear hb ho67
    refine hK.out _ _ ⟨ns1_, ns2_⟩ (fun hHeld => ?_)
    clear hK K
    refine nor_ (some 74) ?_
    clear ns1_ ns2_
    refine one_ (i := 5) (N := some 79) #[true, true, true, true, true, true, true, true, true, true, true, false, true, false, false, false, false, false, false] rfl rfl (by kernel_rfl) (by decide) (fun K hK => ?_)
    refine Kd.R_append_rows_step k82 w.heap.size (by rfl) (.tmp 74) (.tmp 78) 24 82 (.agg #[(.int .i64 0), (.int .i64 0)]) 16 rfl Tryd.underlying24 info82p rfl (by decide) (by omega) v145 y144 (rd_Lparts x7_2 t129) _ _ _ (fun _ => True) (fun _ => False) rfl rfl ?aO ?aR (fun _ _ h => h) (fun _ h => h.elim) ?aF (Below.refl _ _) ?aS ?aL ?_
    (case aR => exact Kd.F_now (Kd.V_F HL147_0.out))
    (case aF => exact (fun _ _ => trivial))
    (case aO => exact (Kd.R_below HO146.out lt_))
    (case aS => exact (keep_size (w := w) (g := g) (row := none) (keep_at HK.out)))
    (case aL => have := LMc51.out; omega)
    intro v149 w68 ho hb hg hat
    rw [← Ny148.out] at ho
    have ns1_ := cell_apart hHeld.1 hg (HO_7.out.1 _ rfl).2
    have ns2_ := cell_apart hHeld.2 hg (HO_7.out.1 _ rfl).2
    clear hHeld
    have n0_ := mk_ (Kd.N_afterv (ok := (fun k_ => k_ ≠ g)) (Kd.N_below HO_7.out lt_) hg hat)
    have n1_ := mk_ (IsS99.grown (IsS99.below HI0.out lt_) hg (IsS99.own_ne HI0.out HO146.out (by decide)))
    have n2_ := mk_ (Kd.V_afterv (ok := (fun k_ => some k_ ≠ (.slice (some ad147) x7_2.length co32 : Value).ownBlock ∧ k_ ≠ g)) (Kd.V_mono HL147_0.out (fun _ hk => ⟨⟨hk.1.2, hk.1.1⟩, hk.2⟩)) hg hat)
    have nl2_ := mk_ (Kd.V_afterv (ok := (fun k_ => some k_ ≠ (.slice (some ad147) x7_2.length co32 : Value).ownBlock ∧ k_ ≠ g)) (Kd.V_mono HL151_0.out (fun _ hk => ⟨⟨hk.1.2, hk.1.1⟩, hk.2⟩)) hg hat)
    have n3_ := mk_ (below_weaken (below_at HB.out) HL.out hb)
    have n4_ := mk_ (KeepBut.trans (keep_at HK.out) (KeepBut.of_grown hg g) (Kd.R_base2 HO146.out))
    have n5_ := mk_ (ho)
    clear HO_7
    clear HI0
    clear HL147_0
    clear HL151_0
    have HL151_0 := nl2_
    clear nl2_
    clear HB
    clear HK
    clear HO146
    have HO_7 := n0_
    have HI0 := n1_
    have HL147_0 := n2_
    have HB := n3_
    have HK := n4_
    have HO150 := n5_
    clear n0_ n1_ n2_ n3_ n4_ n5_
    clear ho hb hg hat
    refine hK.out _ _ ⟨ns1_, ns2_⟩ (fun hHeld => ?_)
    clear hK K
    refine nor_ (some 79) ?_
    clear ns1_ ns2_
    refine last_ (i := 11) (N := some 85) #[true, true, true, true, true, true, true, true, true, true, true, true, true, false, false, false, false, false, false] rfl rfl (by kernel_rfl) (by decide) (fun K hK => ?_)
    refine Kd.R_append_rows_step k82 w.heap.size (by rfl) (.tmp 79) (.tmp 84) 24 82 (.agg #[(.int .i64 0), (.int .i64 0)]) 16 rfl Tryd.underlying24 info82p rfl (by decide) (by omega) v149 y148 (rd_Lparts x7_2 (ji52)) _ _ _ (fun _ => True) (fun _ => False) rfl rfl ?aO ?aR (fun _ _ h => h) (fun _ h => h.elim) ?aF (Below.refl _ _) ?aS ?aL ?_
    (case aR => exact Kd.F_now (Kd.V_F HL151_0.out))
    (case aF => exact (fun _ _ => trivial))
    (case aO => exact (Kd.R_below HO150.out lt_))
    (case aS => exact (keep_size (w := w) (g := g) (row := none) (keep_at HK.out)))
    (case aL => have := LMc55.out; omega)
    intro v153 w69 ho hb hg hat
    rw [← Ny152.out] at ho
    replace HO_7 := mk_ (Kd.N_afterv (ok := (fun k_ => k_ ≠ g)) (Kd.N_below HO_7.out lt_) hg hat)
    replace HI0 := mk_ (IsS99.grown (IsS99.below HI0.out lt_) hg (IsS99.own_ne HI0.out HO150.out (by decide)))
    replace HB := mk_ (below_weaken (below_at HB.out) HL.out hb)
    replace HK := mk_ (KeepBut.trans (keep_at HK.out) (KeepBut.of_grown hg g) (Kd.R_base2 HO150.out))
    have HO154 := mk_ (ho)
    (try clear HL147_0 HL151_0 HO150)
    clear ho hb hg hat
    refine hK.out _ _ ?_
    clear hK K
    refine nor_ (some 85) ?_
    refine last_ (i := 13) (N := some 87) #[true, true, true, true, true, true, true, true, true, true, true, true, true, true, false, false, false, false, false] rfl rfl (by kernel_rfl) (by decide) (fun K hK => ?_)
    refine goes_ Tryd.func52 (by kernel_rfl) rfl #[.pointer (some ⟨g, 0, none⟩), .int .i64 3] (by rfl) rfl rfl gl_ ?_
    (with_reducible refine (spec_l20Rd_pick.calls kj30 g s0_0 x1001_30 3 t155 t156 w0 _ ?side1 ?side2 A56.out).mono ?_)
    (case side1 => exact IsS99.below HI0.out lt_)
    (case side2 => exact below_at HB.out)
    rintro e w70 ⟨rfl, hi, hb, hk⟩
    refine ⟨_, rfl, ?_⟩
    replace HO_7 := mk_ (Kd.N_mono (Kd.N_keep (Kd.N_mono (ok := fun k_ => (k_ ≠ g ∧ some k_ ≠ (v153 : Value).ownBlock)) (Kd.N_below HO_7.out lt_) (fun k_ hk_ => (⟨hk_, hk_.1⟩ : _ ∧ k_ ≠ g))) hk (fun _ h => h.2)) (fun _ h => h.1))
    replace HO154 := mk_ (Kd.R_mono (Kd.R_keep (IsS99.apart (show IsS99 w0 _ g s0_0 x1001_30 from IsS99.below HI0.out lt_) (Kd.R_below HO154.out lt_) (by decide)) hk (fun _ h => h.2)) (fun _ h => h.1))
    replace HK := mk_ (KeepBut.trans (keep_at HK.out) hk (.inl rfl))
    replace HB := mk_ (hb)
    replace HI0 := mk_ (hi)
    (try clear HL147_0 HL151_0)
    (try clear hb)
    (try clear hb2)
    (try clear hk)
    (try clear hi)
    refine hK.out _ _ ?_
    clear hK K
    refine nor_ (some 87) ?_
    refine pur_ 14 (some 88) #[true, true, true, true, true, true, true, true, true, true, true, true, true, true, true, false, false, false, false] (by kernel_rfl) ?_
    refine pur_ 15 (some 89) #[true, true, true, true, true, true, true, true, true, true, true, true, true, true, true, true, false, false, false] (by kernel_rfl) ?_
    refine last_ (i := 16) (N := some 90) #[true, true, true, true, true, true, true, true, true, true, true, true, true, true, true, true, true, false, false] rfl rfl (by kernel_rfl) (by decide) (fun K hK => ?_)
    refine value_ (w1 := ?_) (v := ?_) (by rfl) rfl ?_ ?_
    rotate_left 2
    ·go_simp
     constructor
     ·rfl
     rfl
    refine hK.out _ _ ?_
    clear hK K
    refine nor_ (some 90) ?_
    refine last_ (i := 17) (N := some 91) #[true, true, true, true, true, true, true, true, true, true, true, true, true, true, true, true, true, true, false] rfl rfl (by kernel_rfl) (by decide) (fun K hK => ?_)
    refine Kd.R_append_step k82 w.heap.size (by rfl) (.tmp 85) (.tmp 90) 24 82 (.agg #[(.int .i64 0), (.int .i64 0)]) 16 rfl Tryd.underlying24 info82p rfl (by decide) (by omega) v153 y152 (⟨wrap64 (3 + t155), 0⟩ : S82) [.int .i64 (wrap64 (3 + t155)), .int .i64 0] (fun _ => True) (fun _ => False) rfl rfl ?aP (fun _ hk => hk.elim) ?aF ?aO (Below.refl _ _) ?aS ?aL ?_
    (case aP => exact k82_mkM _ _ _ (⟨wrap64 (3 + t155), 0⟩ : S82))
    (case aF => exact (fun _ _ => trivial))
    (case aO => exact (Kd.R_below HO154.out lt_))
    (case aS => exact (keep_size (w := w) (g := g) (row := none) (keep_at HK.out)))
    (case aL => have := LMc57.out; omega)
    intro v158 w71 ho hb hg hat
    rw [← Ny157.out] at ho
    replace HO_7 := mk_ (Kd.N_afterv (ok := (fun k_ => k_ ≠ g)) (Kd.N_below HO_7.out lt_) hg hat)
    replace HI0 := mk_ (IsS99.grown (IsS99.below HI0.out lt_) hg (IsS99.own_ne HI0.out HO154.out (by decide)))
    replace HB := mk_ (below_weaken (below_at HB.out) HL.out hb)
    replace HK := mk_ (KeepBut.trans (keep_at HK.out) (KeepBut.of_grown hg g) (Kd.R_base2 HO154.out))
    have HO159 := mk_ (ho)
    (try clear HL147_0 HL151_0 HO154)
    clear ho hb hg hat
    refine hK.out _ _ ?_
    clear hK K
    refine nor_ (some 91) ?_
    refine pur_ 18 (some 11) #[true, true, true, true, true, true, true, true, true, true, true, true, true, true, true, true, true, true, true] (by kernel_rfl) ?_
    refine done_ (by kernel_rfl) ?_
    go_wp2_with (first | ((with_reducible refine gate_dst (N := 92) rfl ?_); refine Kd.N_lit (ownd 82 k82 w.heap.size) _ 24 ?hg (N' := 92) ?hd (xs := ([] : List (List (S82)))) (inner := []) (ok := (fun k_ => some k_ ≠ (.slice (some ad147) x7_2.length co32 : Value).ownBlock ∧ some k_ ≠ (v158 : Value).ownBlock ∧ k_ ≠ g)) (okp := (fun k_ => some k_ ≠ (.slice (some ad147) x7_2.length co32 : Value).ownBlock ∧ some k_ ≠ (v158 : Value).ownBlock ∧ k_ ≠ g)) ?hr ?hp (fun _ hk => hk) ((show ∀ k_, w71.heap.size ≤ k_ → (fun k_ => some k_ ≠ (.slice (some ad147) x7_2.length co32 : Value).ownBlock ∧ some k_ ≠ (v158 : Value).ownBlock ∧ k_ ≠ g) k_ from fun k_ hk => ⟨Kd.fresh' (Kd.N_lt (Kd.N_below HO_7.out lt_)) k_ hk, Kd.fresh' (Kd.R_lt (Kd.R_below HO159.out lt_)) k_ hk, IsS99.fresh (IsS99.below HI0.out lt_) k_ hk⟩) _ (Nat.le_refl _)) (Below.refl _ _) (Nat.le_refl _) (by simp) ?_; (case hd => rfl); (case hg => rfl); (case hr => first | (go_simp; done) | (go_simp; rfl)); (case hp => exact (Reps.none _ _)); intro v161 w72 ho73 hb hg_ hnew_; clear hg_ hnew_; (first | rw [← Ny160.out] at ho73 | (simp only [Int.reduceToNat] at ho73; rw [← Ny160.out] at ho73)); replace HO_7 := mk_ (Kd.N_elder' (Kd.N_below HO_7.out lt_) (Kd.N_base ho73) hb); replace HO159 := mk_ (Kd.R_below (Kd.R_below HO159.out lt_) hb); have HO162 := mk_ (Kd.N_lower ho73 (keep_size (w := w) (g := g) (row := none) (keep_at HK.out))); replace HI0 := mk_ (IsS99.below (IsS99.below HI0.out lt_) hb); replace HK := mk_ (KeepBut.trans (keep_at HK.out) (KeepBut.of_below hb g none) (.inl rfl)); replace HB := mk_ (below_step (below_at HB.out) hb); (try clear HL147_0 HL151_0); clear hb ho73; have q74 : (t129 : Int) ≤ ((x7_2.length : Int) : Int) := oa_; obtain ⟨i074, hi074, _, hsz74, _⟩ := info_parts info24p; have hroom74 : x7_2.length ≤ co32 := (Kd.N_reads' HO_7.out).2.1; have hC74 : Kd.F (ownd 82 k82 w.heap.size) _ _ (some ad147) x7_2.length x7_2 := (Kd.V_at (base := w.heap.size) (Kd.N_V HO_7.out)).2.2; have hcut74 := cut_to (P := Tryd.prog) 128 24 .i64 Tryd.underlying128 hi074 (some ad147) x7_2.length co32 t129 (oa_) q74 hroom74; have hr74 := Kd.F_take (m := (t129 : Int).toNat) hC74 (by omega); have hy74 : y163.length = (t129 : Int).toNat := (by rw [Ny163.out, List.length_take]; omega); rw [← Ny163.out] at hr74; rw [← hy74] at hcut74; have HO167 := mk_ (show Kd.V (ownd 82 k82 w.heap.size) 24 _ w.heap.size _ (.slice (some ad147) y163.length co32) y163 from Kd.V_mk (by omega) hr74); have HC167 := mk_ (show y163.length ≤ co32 from by omega); clear hr74 hC74 hroom74 hi074 hsz74; have KY74 := mk_ hy74; clear hy74; replace q74 := eq_true q74) | ((with_reducible refine gate_builtin (b := .append) (xs := #[.tmp 92, .tmp 95]) rfl ?_); at_builtin; refine Kd.N_append_rows (ownd 82 k82 w.heap.size) w.heap.size rfl (.tmp 92) (.tmp 95) 128 24 (.slice none 0 0) 24 rfl Tryd.underlying128 info24p rfl Nat.one_pos (by omega) v161 y160 y163 _ _ _ (fun k_ => some k_ ≠ (v158 : Value).ownBlock ∧ k_ ≠ g) (fun k_ => ((fun k_ => some k_ ≠ (v158 : Value).ownBlock ∧ k_ ≠ g)) k_ ∧ some k_ ≠ (v161 : Value).ownBlock) rfl rfl ?aO ?aR (fun _ hk => hk) ?aF (Below.refl _ _) ?aS ?aL ?_; (case aR => exact (by skip; exact Kd.V_F (Kd.V_mono (ok' := (fun k_ => ((fun k_ => some k_ ≠ (v158 : Value).ownBlock ∧ k_ ≠ g)) k_ ∧ some k_ ≠ (v161 : Value).ownBlock)) (HO167.out) (fun k_ hk => ⟨⟨hk.1.2, hk.1.1⟩, hk.2⟩)))); (case aF => exact (fun k_ hk => ⟨Kd.fresh' (Kd.R_lt (Kd.R_below HO159.out lt_)) k_ hk, IsS99.fresh (IsS99.below HI0.out lt_) k_ hk⟩)); (case aO => exact (Kd.N_below (Kd.N_mono HO162.out (fun _ hk => ⟨hk.2.1, hk.2.2⟩)) lt_)); (case aS => exact (keep_size (w := w) (g := g) (row := none) (keep_at HK.out))); (case aL => have := LMc60.out; omega); intro v169 w75 ho hb hg hat; rw [← Ny168.out] at ho; replace HO_7 := mk_ (Kd.N_afterv (ok := (fun k_ => some k_ ≠ (v158 : Value).ownBlock ∧ k_ ≠ g)) (Kd.N_below (Kd.N_mono HO_7.out (fun _ hk => ⟨⟨hk.1.2, hk.1.1⟩, hk.2⟩)) lt_) hg hat); replace HI0 := mk_ (IsS99.grown (IsS99.below HI0.out lt_) hg (IsS99.own_neN HI0.out HO162.out (by decide))); replace HO159 := mk_ (Kd.R_over' (Kd.R_below HO159.out lt_) (Kd.N_typed (Kd.N_below HO162.out lt_)) (by decide) hg); replace HB := mk_ (below_weaken (below_at HB.out) HL.out hb); replace HK := mk_ (KeepBut.trans (keep_at HK.out) (KeepBut.of_grown hg g) (Kd.N_base2 HO162.out)); have HO170 := mk_ (ho); (try clear HL147_0 HL151_0 HO167 HO162); clear ho hb hg hat; obtain ⟨Ao77, co77, eo77⟩ := Kd.R_slice HO159.out; subst eo77) | ((with_reducible refine gate_builtin (b := .append) (xs := #[.tmp 97, .tmp 99]) rfl ?_); at_builtin; refine Kd.N_append (ownd 82 k82 w.heap.size) w.heap.size rfl (.tmp 97) (.tmp 99) 128 24 (.slice none 0 0) 24 rfl Tryd.underlying128 info24p rfl Nat.one_pos (by omega) v169 y168 y157 [.slice Ao77 y157.length co77] (fun k_ => k_ ≠ g) (fun k_ => ((fun k_ => k_ ≠ g)) k_ ∧ some k_ ≠ (v169 : Value).ownBlock) rfl rfl ?aP (fun _ hk => hk) ?aF ?aO (Below.refl _ _) ?aS ?aL ?_; (case aP => exact (FK_own_mk (Kd.R_mono (ok' := (fun k_ => ((fun k_ => k_ ≠ g)) k_ ∧ some k_ ≠ (v169 : Value).ownBlock)) (IsS99.apart HI0.out (Kd.R_apart' (HO159.out) (Kd.N_typed HO170.out) (by decide)) (by decide)) (fun k_ hk => ⟨hk.2, hk.1.2⟩)))); (case aF => exact (fun k_ hk => IsS99.fresh (IsS99.below HI0.out lt_) k_ hk)); (case aO => exact (Kd.N_below (Kd.N_mono HO170.out (fun _ hk => hk.2)) lt_)); (case aS => exact (keep_size (w := w) (g := g) (row := none) (keep_at HK.out))); (case aL => have := LMc61.out; omega); intro v172 w76 ho hb hg hat; rw [← Ny171.out] at ho; replace HO_7 := mk_ (Kd.N_afterv (ok := (fun k_ => some k_ ≠ (.slice Ao77 y157.length co77 : Value).ownBlock ∧ k_ ≠ g)) (Kd.N_below HO_7.out lt_) hg hat); replace HI0 := mk_ (IsS99.grown (IsS99.below HI0.out lt_) hg (IsS99.own_neN HI0.out HO170.out (by decide))); replace HB := mk_ (below_weaken (below_at HB.out) HL.out hb); replace HK := mk_ (KeepBut.trans (keep_at HK.out) (KeepBut.of_grown hg g) (Kd.N_base2 HO170.out)); have HO173 := mk_ (ho); (try clear HL147_0 HL151_0 HO167 HO170 HO159); clear ho hb hg hat; have q78 : ((ji62) : Int) ≤ ((x7_2.length : Int) : Int) := oa_; obtain ⟨i078, hi078, _, hsz78, _⟩ := info_parts info24p; have hroom78 : x7_2.length ≤ co32 := (Kd.N_reads' HO_7.out).2.1; have hC78 : Kd.F (ownd 82 k82 w.heap.size) _ _ (some ad147) x7_2.length x7_2 := (Kd.V_at (base := w.heap.size) (Kd.N_V HO_7.out)).2.2; have q078 : (0 : Int) ≤ ((ji62) : Int) := oa_; have hcut78 := cut_from (P := Tryd.prog) 128 24 .i64 Tryd.underlying128 hi078 1 hsz78 (some ad147) x7_2.length co32 (ji62) q078 q78; have hr78 := Kd.F_cut (m := ((ji62) : Int).toNat) (c := co32) hC78 (by omega) hroom78; obtain ⟨A78, hA78⟩ : ∃ A1, A1 = (if co32 = ((ji62) : Int).toNat then (some ad147) else ((some ad147) : Option Addr).map (·.add (((ji62) : Int).toNat * 1))) := ⟨_, rfl⟩; obtain ⟨c78, hc78⟩ : ∃ c1, c1 = co32 - ((ji62) : Int).toNat := ⟨_, rfl⟩; have hy78 : y174.length = x7_2.length - ((ji62) : Int).toNat := (by rw [Ny174.out, List.length_drop] <;> omega); rw [show (x7_2).drop ((ji62) : Int).toNat = y174 from Ny174.out.symm] at hr78; replace hr78 : Kd.F (ownd 82 k82 w.heap.size) _ _ A78 y174.length y174 := (by rw [hA78]; exact hr78); rw [← hy78, ← hA78, ← hc78] at hcut78; have HO178 := mk_ (show Kd.V (ownd 82 k82 w.heap.size) 24 _ w.heap.size _ (.slice A78 y174.length c78) y174 from Kd.V_mk (by rw [hy78, hc78]; exact Nat.sub_le_sub_right hroom78 _) hr78); have HC178 := mk_ (show y174.length ≤ c78 from by rw [hy78, hc78]; exact Nat.sub_le_sub_right hroom78 _); clear hr78 hC78 hroom78 hi078 hsz78 hc78; have KY78 := mk_ hy78; have KA78 := mk_ hA78; clear hy78 hA78; replace q78 := eq_true q78) | ((with_reducible refine gate_builtin (b := .append) (xs := #[.tmp 101, .tmp 105]) rfl ?_); at_builtin; refine Kd.N_append_rows (ownd 82 k82 w.heap.size) w.heap.size rfl (.tmp 101) (.tmp 105) 128 24 (.slice none 0 0) 24 rfl Tryd.underlying128 info24p rfl Nat.one_pos (by omega) v172 y171 y174 _ _ _ (fun k_ => k_ ≠ g) (fun k_ => ((fun k_ => k_ ≠ g)) k_ ∧ some k_ ≠ (v172 : Value).ownBlock) rfl rfl ?aO ?aR (fun _ hk => hk) ?aF (Below.refl _ _) ?aS ?aL ?_; (case aR => exact (by skip; exact Kd.V_F (Kd.V_mono (ok' := (fun k_ => ((fun k_ => k_ ≠ g)) k_ ∧ some k_ ≠ (v172 : Value).ownBlock)) (HO178.out) (fun k_ hk => ⟨hk.1.2, hk.2⟩)))); (case aF => exact (fun k_ hk => IsS99.fresh (IsS99.below HI0.out lt_) k_ hk)); (case aO => exact (Kd.N_below HO173.out lt_)); (case aS => exact (keep_size (w := w) (g := g) (row := none) (keep_at HK.out))); (case aL => have := LMc65.out; omega); intro v180 w79 ho hb hg hat; rw [← Ny179.out] at ho; replace HI0 := mk_ (IsS99.grown (IsS99.below HI0.out lt_) hg (IsS99.own_neN HI0.out HO173.out (by decide))); replace HB := mk_ (below_weaken (below_at HB.out) HL.out hb); replace HK := mk_ (KeepBut.trans (keep_at HK.out) (KeepBut.of_grown hg g) (Kd.N_base2 HO173.out)); have HO181 := mk_ (ho); (try clear HO_7 HL147_0 HL151_0 HO167 HO178 HO173); clear ho hb hg hat))
    (try subst hji62)
    (try subst hji52)
    go_roundg kj30
    case measure => have := HK1.out; have := HK2.out; have := HJ30.out; omega
    case rel => exact ⟨(y179), (x9_2), (t156), sm_, H', ⟨by have := HK1.out; have := HK2.out; have := HJ30.out; omega⟩, ⟨Kd.N_below HO181.out lt_⟩, ⟨IsS99.below HI0.out lt_⟩, ⟨keep_at HK.out⟩, ⟨below_at HB.out⟩⟩
end Go.Proofs.YtcaogllnbpmcgaaDoor.P

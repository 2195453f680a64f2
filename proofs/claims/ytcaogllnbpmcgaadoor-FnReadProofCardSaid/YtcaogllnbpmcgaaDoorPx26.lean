/- Go's functions come to just the answers of the Lean functions told here. -/
import Derived.Test.YtcaogllnbpmcgaaDoorPx25
set_option maxHeartbeats 8000000
set_option maxRecDepth 100000
namespace Go.Proofs.YtcaogllnbpmcgaaDoor.P
open Go.RowKit Go.Proofs.YtcaogllnbpmcgaaDoorW.PrintWords Go.Proofs.YtcaogllnbpmcgaaDoorW.PrintLast Go.Proofs.YtcaogllnbpmcgaaDoorW.PrintMore
attribute [local go_sem] max2_int min2_int max_two min_two max_three min_three max_four min_four
set_option linter.unusedVariables false
set_option linter.unusedSimpArgs false
-- HAND rounds=1 making=1
/-! A row's rows each of the call's own, however often they are led to. -/
def ownd {α : Type} (e : Nat) (d : Kd α) (b : Nat) : Kd (List α) where
  sz := 1
  E := e :: d.E
  K := fun w xs cs => ∃ v, cs = [v] ∧ d.R e w b (fun _ => True) v xs
  M := fun w base ok xs cs => ∃ v, cs = [v] ∧ d.R e w (max b base) ok v xs
  K_len := by
    rintro w x cs ⟨v, rfl, _⟩
    rfl
  K_one := by
    rintro w x cs ⟨v, rfl, h⟩ u hu
    rw [List.mem_singleton.1 hu]
    obtain ⟨A, c, rfl⟩ := Kd.R_slice h
    rfl
  K_below := by
    rintro w w1 x cs hb ⟨v, rfl, h⟩
    exact ⟨v, rfl, Kd.R_below h hb⟩
  K_of_M := by
    rintro w base ok x cs ⟨v, rfl, h⟩
    exact ⟨v, rfl, Kd.R_mono (Kd.R_lower h (Nat.le_max_left _ _)) (fun _ _ => trivial)⟩
  M_mono := by
    rintro w base ok ok' x cs hok ⟨v, rfl, h⟩
    exact ⟨v, rfl, Kd.R_mono h hok⟩
  M_bound := by
    rintro w base ok x cs ⟨v, rfl, h⟩
    exact ⟨v, rfl, Kd.R_mono (Kd.R_bound h) (fun k hk => ⟨hk.1, Nat.le_trans (Nat.le_max_right _ _) hk.2.1, hk.2.2⟩)⟩
  M_move := by
    rintro w w1 base ok x cs hm ⟨v, rfl, h⟩
    exact ⟨v, rfl, Kd.R_move h hm⟩
  M_lower := by
    rintro w base base' ok x cs hb ⟨v, rfl, h⟩
    exact ⟨v, rfl, Kd.R_lower h (by omega)⟩
theorem own_K {α : Type} {e b : Nat} {d : Kd α} {w : World} {l : List α} {c : List Value} (h : (ownd e d b).K w l c) : (Kd.slice e d).K w l c := by
  obtain ⟨v, rfl, h⟩ := h
  obtain ⟨A, c, rfl, hl, hC⟩ := Kd.R_reads h
  exact ⟨A, c, rfl, hl, hC⟩
theorem own_C {α : Type} {e b n : Nat} {d : Kd α} {w : World} {A : Option Addr} {l : List (List α)} (h : (ownd e d b).C w A n l) : (Kd.slice e d).C w A n l :=
  ⟨h.1, h.2.1, fun hn => by
    obtain ⟨ad, ea, hc⟩ := h.2.2 hn
    refine ⟨ad, ea, fun j p hj => ?_⟩
    obtain ⟨c, hs, hr, hcell⟩ := hc j p hj
    exact ⟨c, hs, own_K hr, hcell⟩⟩
theorem FK_own_open {α : Type} {e b : Nat} {d : Kd α} {W : World} {ok : Nat → Prop} {l : List α} {cs : List Value} (h : Kd.FK (ownd e d b) W ok l cs) : ∃ A c, cs = [.slice A l.length c] ∧ l.length ≤ c ∧ Kd.F d W ok A l.length l :=
  Kd.FK_slice_open (e := e) (Foot.imp h (fun _ h => own_K h))
theorem FK_own_mk {α : Type} {e b : Nat} {d : Kd α} {W : World} {ok : Nat → Prop} {l : List α} {v : Value} (h : d.R e W b ok v l) : Kd.FK (ownd e d b) W ok l [v] := fun _ hW => ⟨v, rfl, Kd.R_mono (Kd.R_step h hW) (fun _ _ => trivial)⟩
theorem cell_old {w w1 : World} {a : Addr} {v : Value} (h : w.cell? a = some v) (hb : Below w.heap.size w w1) : w1.cell? a = some v := Kd.cell_heap (fun k hk => hb.block k hk) h
theorem cell_apart {w w1 : World} {row : Option Nat} {a : Addr} {i : Nat} {v : Value} (h : w.cell? (a.add i) = some v) (hg : w.grownBy w1 row) (hne : some a.block ≠ row) : w1.cell? (a.add i) = some v := by
  have hb : (a.add i).block = a.block := by
    unfold Addr.add
    split <;> rfl
  have := hg.block a.block (by have h2 := World.block_lt_of_cell? w (a.add i) h; rwa [hb] at h2) hne
  simpa [World.cell?, hb, this] using h
theorem info24p : (Tryd.prog.info? 24).map (fun i => (i.zero, i.size, i.bytes)) = some (some (.slice none 0 0), 1, 24) := by kernel_rfl
theorem info82p : (Tryd.prog.info? 82).map (fun i => (i.zero, i.size, i.bytes)) = some (some (.agg #[(.int .i64 0), (.int .i64 0)]), 2, 16) := by kernel_rfl
def rd_Lparts (xs : List (List S82)) (i : Int) : List S82 := xs.getD i.toNat ([] : List S82)
theorem at_Lparts {w : World} {A : Option Addr} {n : Nat} {xs : List (List S82)} (h : Kd.C (Kd.slice 82 k82) w A n xs) (i : Int) (h0 : 0 ≤ i) (h1 : i < n) : ∃ ad A0 c0, A = some ad ∧ w.cell? (ad.add i.toNat) = some (.slice A0 (rd_Lparts xs i).length c0) ∧ (rd_Lparts xs i).length ≤ c0 ∧ k82.C w A0 (rd_Lparts xs i).length (rd_Lparts xs i) := by
  obtain ⟨ad, c, e, _, hK, hc0⟩ := Kd.C_get h ([] : List S82) i h0 h1
  have hc : ∀ j u, c[j]? = some u → w.cell? (ad.add (i.toNat * 1 + j)) = some u := hc0
  obtain ⟨A0, c0, rfl, l0, g0⟩ := hK
  exact ⟨ad, A0, c0, e, by have hq := hc 0 _ rfl; rwa [Nat.mul_one, Nat.add_zero] at hq, l0, g0⟩
mutual
def spec_l20Term.l0 : Nat → Int → Int → List (List (S82)) → Int → List Int → Int → Option ((List (S82)) × Int)
 | 0, _, _, _, _, _, _ => none
 | k + 1, x1, x2, x7, x8, x1000, x1001 => if x8 > 0 then ((spec_l20Rd_pick.f k x1000 x1001 4).bind fun bt111 => (if bt111.1 = 0 then ((spec_l20Rd_pick.f k x1000 bt111.2 (wrap64 (x1 + 2))).bind fun bt113 => (if x7.length < 5864062014805 then (spec_l20Term.l0 k x1 x2 (x7 ++ [(([(⟨1, bt113.1⟩ : S82)] : List (S82)))]) (wrap64 (x8 - 1)) x1000 bt113.2) else (none))) else ((spec_l20Rd_pick.f k x1000 bt111.2 x1).bind fun bt121 => (if x7.length < 5864062014805 then (spec_l20Term.l0 k x1 x2 (x7 ++ [(([(⟨0, bt121.1⟩ : S82)] : List (S82)))]) (wrap64 (x8 - 1)) x1000 bt121.2) else (none))))) else (spec_l20Term.l1 k x2 x7 3 x1000 x1001)
def spec_l20Term.l1 : Nat → Int → List (List (S82)) → Int → List Int → Int → Option ((List (S82)) × Int)
 | 0, _, _, _, _, _ => none
 | k + 1, x2, x7, x9, x1000, x1001 => if (x7.length : Int) > 1 then ((spec_l20Rd_pick.f k x1000 x1001 (wrap64 ((x7.length : Int) - 1))).bind fun bt129 => (if x9 > 0 then ((spec_l20Rd_pick.f k x1000 bt129.2 4).bind fun bt131 => (spec_l20Term.j2 k x2 x7 x9 bt129.1 (bt131.1 == 0) x1000 bt131.2)) else (spec_l20Term.j2 k x2 x7 x9 bt129.1 false x1000 bt129.2))) else (if 0 < (x7.length : Int) then ((some (([] : List (S82)) : List (S82))).bind fun y183 => (if y183.length + (rd_Lparts x7 0).length < 8796093022208 then ((some (y183 ++ (rd_Lparts x7 0) : List (S82))).bind fun y186 => ((spec_l20Rd_pick.f k x1000 x1001 5).bind fun bt189 => (if bt189.1 = 0 then (if y186.length < 8796093022208 then (spec_l20Term.j3 k x2 (y186 ++ [(⟨2, 0⟩ : S82)]) x1000 bt189.2) else (none)) else (spec_l20Term.j3 k x2 y186 x1000 bt189.2)))) else (none))) else (none))
def spec_l20Term.j2 : Nat → Int → List (List (S82)) → Int → Int → Bool → List Int → Int → Option ((List (S82)) × Int)
 | 0, _, _, _, _, _, _, _ => none
 | k + 1, x2, x7, x9, x10, x59, x1000, x1001 => if x59 = true then ((some (([] : List (S82)) : List (S82))).bind fun y133 => (if 0 ≤ x10 then (if x10 < (x7.length : Int) then (if y133.length + (rd_Lparts x7 x10).length < 8796093022208 then ((some (y133 ++ (rd_Lparts x7 x10) : List (S82))).bind fun y137 => (if y137.length < 8796093022208 then (spec_l20Term.l1 k x2 (x7.set (x10 : Int).toNat (y137 ++ [(⟨2, 0⟩ : S82)])) (wrap64 (x9 - 1)) x1000 x1001) else (none))) else (none)) else (none)) else (none))) else ((some (([] : List (S82)) : List (S82))).bind fun y144 => (if 0 ≤ x10 then (if x10 < (x7.length : Int) then (if y144.length + (rd_Lparts x7 x10).length < 8796093022208 then ((some (y144 ++ (rd_Lparts x7 x10) : List (S82))).bind fun y148 => (if 0 ≤ (wrap64 (x10 + 1)) then (if (wrap64 (x10 + 1)) < (x7.length : Int) then (if y148.length + (rd_Lparts x7 (wrap64 (x10 + 1))).length < 8796093022208 then ((some (y148 ++ (rd_Lparts x7 (wrap64 (x10 + 1))) : List (S82))).bind fun y152 => ((spec_l20Rd_pick.f k x1000 x1001 3).bind fun bt155 => (if y152.length < 8796093022208 then ((some (([] : List (List (S82))) : List (List (S82)))).bind fun y160 => (if x10 ≤ (x7.length : Int) then ((some (x7.take (x10 : Int).toNat : List (List (S82)))).bind fun y163 => (if y160.length + y163.length < 5864062014805 then ((some (y160 ++ y163 : List (List (S82)))).bind fun y168 => (if y168.length < 5864062014805 then ((some (y168 ++ [(y152 ++ [(⟨wrap64 (3 + bt155.1), 0⟩ : S82)])] : List (List (S82)))).bind fun y171 => (if 0 ≤ (wrap64 (x10 + 2)) then (if (wrap64 (x10 + 2)) ≤ (x7.length : Int) then ((some (x7.drop ((wrap64 (x10 + 2)) : Int).toNat : List (List (S82)))).bind fun y174 => (if y171.length + y174.length < 5864062014805 then (spec_l20Term.l1 k x2 (y171 ++ y174) x9 x1000 bt155.2) else (none))) else (none)) else (none))) else (none))) else (none))) else (none))) else (none)))) else (none)) else (none)) else (none))) else (none)) else (none)) else (none)))
def spec_l20Term.j3 : Nat → Int → List (S82) → List Int → Int → Option ((List (S82)) × Int)
 | 0, _, _, _, _ => none
 | k + 1, x2, x13, x1000, x1001 => (spec_l20Rd_odd.f k x1000 x1001 x2).bind fun bt194 => (if bt194.1 = true then ((spec_l20Rd_pick.f k x1000 bt194.2 3).bind fun bt196 => (if bt196.1 = 0 then (some ((([] : List (S82))), bt196.2)) else (if bt196.1 = 1 then (if x13.length < 8796093022208 then (some ((x13 ++ [(⟨5, 0⟩ : S82)]), bt196.2)) else (none)) else ((spec_l20Rd_pick.f k x1000 bt196.2 2).bind fun bt204 => (if 0 < (x13.length : Int) then (some ((x13.set (0 : Int).toNat (⟨bt204.1, 6⟩ : S82)), bt204.2)) else (none)))))) else (some (x13, bt194.2)))
end
def spec_l20Term.f (k : Nat) (s0_0 : List Int) (s0_1 : Int) (a1 : Int) (a2 : Int) : Option ((List (S82)) × Int) := (spec_l20Rd_pick.f k s0_0 s0_1 4).bind fun bt109 => (spec_l20Term.l0 k (mn (mx a1 1) 4) a2 (([] : List (List (S82)))) (wrap64 (1 + bt109.1)) s0_0 bt109.2)
theorem spec_l20Term.calls (k : Nat) (g : Nat) (q : List Int) (cq : Int) (a1 : Int) (a2 : Int) (r1 : List (S82)) (r2 : Int) (y w : World) (hI : IsS99 y w g q cq) (hB : Below y.heap.size y w) (h : spec_l20Term.f k q cq a1 a2 = some (r1, r2)) :
  Calls Tryd.prog 74 #[.pointer (some ⟨g, 0, none⟩), .int .i64 a1, .int .i64 a2] w fun e w' => ∃ fK : Value, e = .returned (fK) ∧ Kd.R k82 82 w' w.heap.size (fun _ => True) fK r1 ∧ IsS99 y w' g q r2 ∧ Below y.heap.size y w' ∧ KeepBut w w' g none := by
 have hT := Tryd.underlying82
 have a := mk_ hI
 have HK := mk_ (KeepBut.refl w g none)
 have HL := mk_ hB.size
 clear hI
 have iF := mk_ hB.size
 have HB := mk_ hB
 clear hB
 unfold spec_l20Term.f at h
 have H := h
 clear h
 obtain ⟨cb, al⟩ : ∃ j_ : Int, (mx a1 1) = j_ := ⟨_, rfl⟩
 first | rw [al] at H | simp only [al] at H
 (try (have he : 1 ≤ cb := by (rw [← al]; unfold mx; (repeat' split) <;> omega)))
 (try (have hf : 0 ≤ cb := by omega))
 have e2 : (if a1 < 1 then 1 else a1) = cb := al
 obtain ⟨aM, ai⟩ : ∃ j_ : Int, (mn (cb) 4) = j_ := ⟨_, rfl⟩
 first | rw [ai] at H | simp only [ai] at H
 have e3 : (if 4 < (cb) then 4 else (cb)) = aM := ai
 have gM : wrap64 (aM + 2) = aM + 2 := Go.IntWalk.wrap64_in _ (by have gN := e2; have gO := e3; split at gN <;> split at gO <;> omega)
 obtain ⟨d6, cr⟩ : ∃ y_ : List (List (S82)), y_ = (([] : List (List (S82)))) := ⟨_, rfl⟩
 replace H : ((spec_l20Rd_pick.f k q cq 4).bind fun dv => (spec_l20Term.l0 k aM a2 d6 (wrap64 (1 + dv.1)) q dv.2)) = some (r1, r2) := by first | (rw [cr]; exact H) | exact H
 have dw := mk_ cr
 clear cr
 replace H := bm_ H; obtain ⟨⟨d7, d8⟩, A6, H⟩ := H
 try dsimp only at H
 have H' := mk_ H
 clear H
 go_enter Tryd.func74, Tryd.ntmps74
 go_wp2_with (first | ((with_reducible refine gate_dst (N := 17) rfl ?_); refine Kd.N_lit (ownd 82 k82 w.heap.size) _ 24 ?hg (N' := 17) ?hd (xs := ([] : List (List (S82)))) (inner := []) (ok := (fun k_ => k_ ≠ g)) (okp := (fun k_ => k_ ≠ g)) ?hr ?hp (fun _ hk => hk) ((show ∀ k_, w.heap.size ≤ k_ → (fun k_ => k_ ≠ g) k_ from fun k_ hk => IsS99.fresh (IsS99.below a.out lt_) k_ hk) _ (Nat.le_refl _)) (Below.refl _ _) (Nat.le_refl _) (by simp) ?_; (case hd => rfl); (case hg => rfl); (case hr => first | (go_simp; done) | (go_simp; rfl)); (case hp => exact (Reps.none _ _)); intro hV w7 cQ hb ag E; clear ag E; (first | rw [← dw.out] at cQ | (simp only [Int.reduceToNat] at cQ; rw [← dw.out] at cQ)); have cs := mk_ (Kd.N_lower cQ (keep_size (w := w) (g := g) (row := none) (keep_at HK.out))); replace a := mk_ (IsS99.below (IsS99.below a.out lt_) hb); replace HK := kb_ HK hb; replace HB := hs_ HB hb; clear hb cQ) | (refine gc_ 52 (some 19) Tryd.func52 #[.pointer (some ⟨g, 0, none⟩), .int .i64 4] ?_; (with_reducible refine mo_ (spec_l20Rd_pick.calls k g q cq 4 d7 d8 y _ ?side1 ?side2 A6.out) ?_); (case side1 => exact IsS99.below a.out lt_); (case side2 => exact below_at HB.out); rintro w9 ⟨hi, hb, hk⟩; replace cs := mk_ (Kd.N_mono (Kd.N_keep (Kd.N_mono (ok := fun k_ => k_ ≠ g) (Kd.N_below cs.out lt_) (fun k_ hk_ => (⟨hk_, hk_⟩ : _ ∧ k_ ≠ g))) hk (fun _ h => h.2)) (fun _ h => h.1)); replace HK := kc_ HK hk; replace HB := mk_ (hb); replace a := mk_ (hi); (try clear hb)))
 go_loopg [7, 8] k (fun kq v7 v8 w' => ∃ (am : List (List (S82))) (bT : Int) (U : Int), v8 = .int .i64 bT ∧ Aside0 (spec_l20Term.l0 kq aM a2 am bT q U = some (r1, r2)) ∧ Aside0 (kq ≤ k) ∧ Aside0 (Kd.N (ownd 82 k82 w.heap.size) 24 w' w.heap.size (fun k_ => k_ ≠ g) v7 am) ∧ Aside0 (IsS99 y w' g q U) ∧ Aside0 (KeepBut w w' g none) ∧ Aside0 (Below y.heap.size y w'))
 case atStart => exact ⟨(d6), (wrap64 (1 + d7)), (d8), sm_, H', ⟨Nat.le_refl _⟩, ⟨Kd.N_below cs.out lt_⟩, ⟨IsS99.below a.out lt_⟩, ⟨keep_at HK.out⟩, ⟨below_at HB.out⟩⟩
 clear H'
 obtain ⟨am, bT, U, rfl, HA, ak, l, a, HK, HB⟩ := hrel
 cases gk with
 | zero => exact absurd HA.out (by simp [spec_l20Term.l0])
 | succ k1 =>
  have H := HA.out
  clear HA
  simp only [spec_l20Term.l0] at H
  revert H; refine it_ (dt_g fun bo H => ?_) (df_g fun bo H => ?_)
  ·replace H := bm_ H; obtain ⟨⟨d9, ct⟩, fL, H⟩ := H
   try dsimp only at H
   revert H; refine it_ (qt_ fun bp bq H => ?_) (qfk_ fun ea bp bq H => ?_)
   ·replace H := bm_ H; obtain ⟨⟨aE, eb⟩, gP, H⟩ := H
    try dsimp only at H
    obtain ⟨db, br⟩ : ∃ y_ : List (S82), y_ = (([(⟨1, aE⟩ : S82)] : List (S82))) := ⟨_, rfl⟩
    first | (replace H := bn_ br H; try dsimp only at H) | rw [← br] at H
    have dx := mk_ br
    clear br
    revert H; refine g_ (mt_ fun e4 H => ?_)
    obtain ⟨fW, bs⟩ : ∃ y_ : List (List (S82)), y_ = (am ++ [db]) := ⟨_, rfl⟩
    first | (replace H := bn_ bs H; try dsimp only at H) | rw [← bs] at H
    have e5 := mk_ bs
    clear bs
    have H' := mk_ H
    clear H
    go_wp2_with (first | (refine gc_ 52 (some 26) Tryd.func52 #[.pointer (some ⟨g, 0, none⟩), .int .i64 4] ?_; (with_reducible refine mo_ (spec_l20Rd_pick.calls k1 g q U 4 d9 ct y _ ?side1 ?side2 fL.out) ?_); (case side1 => exact IsS99.below a.out lt_); (case side2 => exact below_at HB.out); rintro iG ⟨hi, hb, hk⟩; replace l := mk_ (Kd.N_mono (Kd.N_keep (Kd.N_mono (ok := fun k_ => k_ ≠ g) (Kd.N_below l.out lt_) (fun k_ hk_ => (⟨hk_, hk_⟩ : _ ∧ k_ ≠ g))) hk (fun _ h => h.2)) (fun _ h => h.1)); replace HK := kc_ HK hk; replace HB := mk_ (hb); replace a := mk_ (hi); (try clear hb)) | ((with_reducible refine gate_callee (f := 52) rfl ?_); refine goesL_ (some 32) rfl rfl Tryd.func52 (by kernel_rfl) rfl #[.pointer (some ⟨g, 0, none⟩), .int .i64 (aM + 2)] rfl (by (try simp only [List.map_toArray, List.map_cons, List.map_nil]); first | done | (simp only [ai]; rfl) | rfl | (simp only [List.length_drop, List.length_take]; rfl)) ?_; (with_reducible refine mo_ (spec_l20Rd_pick.calls k1 g q ct (aM + 2) aE eb y _ ?side1 ?side2 (by have h_ := gP.out; rw [gM] at h_; exact h_)) ?_); (case side1 => exact IsS99.below a.out lt_); (case side2 => exact below_at HB.out); rintro iH ⟨hi, hb, hk⟩; replace l := mk_ (Kd.N_mono (Kd.N_keep (Kd.N_mono (ok := fun k_ => k_ ≠ g) (Kd.N_below l.out lt_) (fun k_ hk_ => (⟨hk_, hk_⟩ : _ ∧ k_ ≠ g))) hk (fun _ h => h.2)) (fun _ h => h.1)); replace HK := kc_ HK hk; replace HB := mk_ (hb); replace a := mk_ (hi); (try clear hb)) | ((with_reducible refine gate_dst (N := 34) rfl ?_); refine Kd.R_lit k82 _ 82 ?hg (N := 34) ?hd (xs := ([(⟨1, aE⟩ : S82)] : List (S82))) (inner := [.int .i64 1, .int .i64 aE]) (ok := fun _ => True) (okp := fun _ => True) ?hr ?hp (fun _ hk => hk) trivial (Below.refl _ _) (Nat.le_refl _) (by simp) ?_; (case hd => rfl); (case hg => rfl); (case hr => first | (go_simp; done) | (go_simp; rfl)); (case hp => exact (Reps.c2 (show Kd.M k82 _ _ _ (⟨1, aE⟩ : S82) [.int .i64 1, .int .i64 aE] from (k82_mkM _ _ _ (⟨1, aE⟩ : S82) )) (Reps.none _ _))); intro hX iI aY hb ag E; clear ag E; (first | rw [← dx.out] at aY | (simp only [Int.reduceToNat] at aY; rw [← dx.out] at aY)); replace l := mk_ (Kd.N_elder' (Kd.N_below l.out lt_) (Kd.R_base aY) hb); have cu := mk_ (Kd.R_lower aY (keep_size (w := w) (g := g) (row := none) (keep_at HK.out))); replace a := mk_ (IsS99.below (IsS99.below a.out lt_) hb); replace HK := kb_ HK hb; replace HB := hs_ HB hb; clear hb aY; obtain ⟨fX, fY, fZ⟩ := Kd.R_slice cu.out; subst fZ) | ((with_reducible refine gate_builtin (b := .append) (xs := #[.tmp 28, .tmp 35]) rfl ?_); at_builtin; refine Kd.N_append (ownd 82 k82 w.heap.size) w.heap.size rfl (.tmp 28) (.tmp 35) 128 24 (.slice none 0 0) 24 rfl Tryd.underlying128 info24p rfl Nat.one_pos (by omega) u7 am db [.slice fX db.length fY] (fun k_ => k_ ≠ g) (fun k_ => ((fun k_ => k_ ≠ g)) k_ ∧ some k_ ≠ (u7 : Value).ownBlock) rfl rfl ?aP (fun _ hk => hk) ?aF ?aO (Below.refl _ _) ?aS ?aL ?_; (case aP => exact (FK_own_mk (Kd.R_mono (ok' := (fun k_ => ((fun k_ => k_ ≠ g)) k_ ∧ some k_ ≠ (u7 : Value).ownBlock)) (IsS99.apart a.out (Kd.R_apart' (cu.out) (Kd.N_typed l.out) (by decide)) (by decide)) (fun k_ hk => ⟨hk.2, hk.1.2⟩)))); (case aF => exact (fun k_ hk => IsS99.fresh (IsS99.below a.out lt_) k_ hk)); (case aO => exact (Kd.N_below (Kd.N_mono l.out (fun _ hk => hk.1)) lt_)); (case aS => exact (keep_size (w := w) (g := g) (row := none) (keep_at HK.out))); (case aL => have := e4.out; omega); intro hY iJ ho hb hg hat; rw [← e5.out] at ho; replace a := mk_ (IsS99.grown (IsS99.below a.out lt_) hg (IsS99.own_neN a.out l.out (by decide))); replace HB := mk_ (below_weaken (below_at HB.out) HL.out hb); replace HK := mk_ (KeepBut.trans (keep_at HK.out) (KeepBut.of_grown hg g) (Kd.N_base2 l.out)); have e6 := mk_ (ho); (try clear l cu); clear ho hb hg hat))
    go_roundg k1
    case measure => have := ak.out; omega
    case rel => exact ⟨(fW), (wrap64 (bT - 1)), (eb), sm_, H', ⟨by have := ak.out; omega⟩, ⟨Kd.N_below e6.out lt_⟩, ⟨IsS99.below a.out lt_⟩, ⟨keep_at HK.out⟩, ⟨below_at HB.out⟩⟩
   replace H := bm_ H; obtain ⟨⟨aG, ec⟩, gQ, H⟩ := H
   try dsimp only at H
   obtain ⟨dc, bu⟩ : ∃ y_ : List (S82), y_ = (([(⟨0, aG⟩ : S82)] : List (S82))) := ⟨_, rfl⟩
   first | (replace H := bn_ bu H; try dsimp only at H) | rw [← bu] at H
   have dy := mk_ bu
   clear bu
   revert H; refine g_ (mt_ fun e7 H => ?_)
   obtain ⟨f2, bv⟩ : ∃ y_ : List (List (S82)), y_ = (am ++ [dc]) := ⟨_, rfl⟩
   first | (replace H := bn_ bv H; try dsimp only at H) | rw [← bv] at H
   have e8 := mk_ bv
   clear bv
   have H' := mk_ H
   clear H
   go_wp2_with (first | (refine gc_ 52 (some 26) Tryd.func52 #[.pointer (some ⟨g, 0, none⟩), .int .i64 4] ?_; (with_reducible refine mo_ (spec_l20Rd_pick.calls k1 g q U 4 d9 ct y _ ?side1 ?side2 fL.out) ?_); (case side1 => exact IsS99.below a.out lt_); (case side2 => exact below_at HB.out); rintro iK ⟨hi, hb, hk⟩; replace l := mk_ (Kd.N_mono (Kd.N_keep (Kd.N_mono (ok := fun k_ => k_ ≠ g) (Kd.N_below l.out lt_) (fun k_ hk_ => (⟨hk_, hk_⟩ : _ ∧ k_ ≠ g))) hk (fun _ h => h.2)) (fun _ h => h.1)); replace HK := kc_ HK hk; replace HB := mk_ (hb); replace a := mk_ (hi); (try clear hb)) | ((with_reducible refine gate_callee (f := 52) rfl ?_); refine goesL_ (some 40) rfl rfl Tryd.func52 (by kernel_rfl) rfl #[.pointer (some ⟨g, 0, none⟩), .int .i64 aM] rfl (by (try simp only [List.map_toArray, List.map_cons, List.map_nil]); first | done | (simp only [ai]; rfl) | rfl | (simp only [List.length_drop, List.length_take]; rfl)) ?_; (with_reducible refine mo_ (spec_l20Rd_pick.calls k1 g q ct aM aG ec y _ ?side1 ?side2 gQ.out) ?_); (case side1 => exact IsS99.below a.out lt_); (case side2 => exact below_at HB.out); rintro iL ⟨hi, hb, hk⟩; replace l := mk_ (Kd.N_mono (Kd.N_keep (Kd.N_mono (ok := fun k_ => k_ ≠ g) (Kd.N_below l.out lt_) (fun k_ hk_ => (⟨hk_, hk_⟩ : _ ∧ k_ ≠ g))) hk (fun _ h => h.2)) (fun _ h => h.1)); replace HK := kc_ HK hk; replace HB := mk_ (hb); replace a := mk_ (hi); (try clear hb)) | ((with_reducible refine gate_dst (N := 42) rfl ?_); refine Kd.R_lit k82 _ 82 ?hg (N := 42) ?hd (xs := ([(⟨0, aG⟩ : S82)] : List (S82))) (inner := [.int .i64 0, .int .i64 aG]) (ok := fun _ => True) (okp := fun _ => True) ?hr ?hp (fun _ hk => hk) trivial (Below.refl _ _) (Nat.le_refl _) (by simp) ?_; (case hd => rfl); (case hg => rfl); (case hr => first | (go_simp; done) | (go_simp; rfl)); (case hp => exact (Reps.c2 (show Kd.M k82 _ _ _ (⟨0, aG⟩ : S82) [.int .i64 0, .int .i64 aG] from (k82_mkM _ _ _ (⟨0, aG⟩ : S82) )) (Reps.none _ _))); intro hZ iM aZ hb ag E; clear ag E; (first | rw [← dy.out] at aZ | (simp only [Int.reduceToNat] at aZ; rw [← dy.out] at aZ)); replace l := mk_ (Kd.N_elder' (Kd.N_below l.out lt_) (Kd.R_base aZ) hb); have cv := mk_ (Kd.R_lower aZ (keep_size (w := w) (g := g) (row := none) (keep_at HK.out))); replace a := mk_ (IsS99.below (IsS99.below a.out lt_) hb); replace HK := kb_ HK hb; replace HB := hs_ HB hb; clear hb aZ; obtain ⟨f3, f4, f5⟩ := Kd.R_slice cv.out; subst f5) | ((with_reducible refine gate_builtin (b := .append) (xs := #[.tmp 37, .tmp 43]) rfl ?_); at_builtin; refine Kd.N_append (ownd 82 k82 w.heap.size) w.heap.size rfl (.tmp 37) (.tmp 43) 128 24 (.slice none 0 0) 24 rfl Tryd.underlying128 info24p rfl Nat.one_pos (by omega) u7 am dc [.slice f3 dc.length f4] (fun k_ => k_ ≠ g) (fun k_ => ((fun k_ => k_ ≠ g)) k_ ∧ some k_ ≠ (u7 : Value).ownBlock) rfl rfl ?aP (fun _ hk => hk) ?aF ?aO (Below.refl _ _) ?aS ?aL ?_; (case aP => exact (FK_own_mk (Kd.R_mono (ok' := (fun k_ => ((fun k_ => k_ ≠ g)) k_ ∧ some k_ ≠ (u7 : Value).ownBlock)) (IsS99.apart a.out (Kd.R_apart' (cv.out) (Kd.N_typed l.out) (by decide)) (by decide)) (fun k_ hk => ⟨hk.2, hk.1.2⟩)))); (case aF => exact (fun k_ hk => IsS99.fresh (IsS99.below a.out lt_) k_ hk)); (case aO => exact (Kd.N_below (Kd.N_mono l.out (fun _ hk => hk.1)) lt_)); (case aS => exact (keep_size (w := w) (g := g) (row := none) (keep_at HK.out))); (case aL => have := e7.out; omega); intro h4 iN ho hb hg hat; rw [← e8.out] at ho; replace a := mk_ (IsS99.grown (IsS99.below a.out lt_) hg (IsS99.own_neN a.out l.out (by decide))); replace HB := mk_ (below_weaken (below_at HB.out) HL.out hb); replace HK := mk_ (KeepBut.trans (keep_at HK.out) (KeepBut.of_grown hg g) (Kd.N_base2 l.out)); have e9 := mk_ (ho); (try clear l cv); clear ho hb hg hat))
   go_roundg k1
   case measure => have := ak.out; omega
   case rel => exact ⟨(f2), (wrap64 (bT - 1)), (ec), sm_, H', ⟨by have := ak.out; omega⟩, ⟨Kd.N_below e9.out lt_⟩, ⟨IsS99.below a.out lt_⟩, ⟨keep_at HK.out⟩, ⟨below_at HB.out⟩⟩
  have H' := mk_ H
  clear H
  go_wp2
  go_loopg [7, 9] k1 (fun kq v7 v9 w' => ∃ (d : List (List (S82))) (W : Int) (J : Int), v9 = .int .i64 W ∧ Aside0 (spec_l20Term.l1 kq a2 d W q J = some (r1, r2)) ∧ Aside0 (kq ≤ k1) ∧ Aside0 (Kd.N (ownd 82 k82 w.heap.size) 24 w' w.heap.size (fun k_ => k_ ≠ g) v7 d) ∧ Aside0 (IsS99 y w' g q J) ∧ Aside0 (KeepBut w w' g none) ∧ Aside0 (Below y.heap.size y w'))
  case atStart => exact ⟨(am), (3), (U), sm_, H', ⟨Nat.le_refl _⟩, ⟨Kd.N_below l.out lt_⟩, ⟨IsS99.below a.out lt_⟩, ⟨keep_at HK.out⟩, ⟨below_at HB.out⟩⟩
  clear H'
  try clear bo
  try clear ea
  try clear bp
  try clear bq
  obtain ⟨d, W, J, rfl, HA, bn, l, a, HK, HB⟩ := hrel
  cases gk with
  | zero => exact absurd HA.out (by simp [spec_l20Term.l1])
  | succ k2 =>
   have H := HA.out
   clear HA
   simp only [spec_l20Term.l1] at H
   revert H; refine ti_ (fun bU H => ?_) fun bU H => ?_
   ·have cw : decide (1 < (d.length : Int)) = false := decide_eq_false bU
    have cx : decide (1 < d.length) = false := decide_eq_false (by omega)
    clear bU
    revert H; refine g_ (fun ed H => ?_)
    have fa : decide (0 < (d.length : Int)) = true := decide_eq_true ed
    have fb : decide (0 < d.length) = true := decide_eq_true (by omega)
    clear ed
    obtain ⟨dd, cy⟩ : ∃ y_ : List (S82), y_ = (([] : List (S82))) := ⟨_, rfl⟩
    replace H : (if dd.length + (rd_Lparts d 0).length < 8796093022208 then ((some (dd ++ (rd_Lparts d 0) : List (S82))).bind fun an => ((spec_l20Rd_pick.f k2 q J 5).bind fun cz => (if cz.1 = 0 then (if an.length < 8796093022208 then (spec_l20Term.j3 k2 a2 (an ++ [(⟨2, 0⟩ : S82)]) q cz.2) else (none)) else (spec_l20Term.j3 k2 a2 an q cz.2)))) else (none)) = some (r1, r2) := by first | (rw [cy]; exact H) | exact H
    have fc := mk_ cy
    clear cy
    revert H; refine g_ (mt_ fun hh H => ?_)
    obtain ⟨an, bw⟩ : ∃ y_ : List (S82), y_ = (dd ++ (rd_Lparts d 0)) := ⟨_, rfl⟩
    first | (replace H := bn_ bw H; try dsimp only at H) | rw [← bw] at H
    have fd := mk_ bw
    clear bw
    replace H := bm_ H; obtain ⟨⟨f6, X⟩, gR, H⟩ := H
    try dsimp only at H
    have de := mk_ H
    clear H
    obtain ⟨h6, h7, f7⟩ := Kd.N_slice l.out
    subst f7
    have bV : 0 ≤ (0 : Int) := (by omega)
    have bW : 0 < (d.length : Int) := oa_
    obtain ⟨hj, cT, cU, f8, ah, d0, d1⟩ := at_Lparts (own_C (Kd.N_reads' l.out).2.2) 0 bV bW
    cases f8
    obtain ⟨hl, ee, cV, cW⟩ := Kd.N_get l.out [] 0 bV (by first | exact bW | exact oa_ | (have e_ := (Kd.N_reads' l.out).1; omega))
    obtain ⟨gB, gC, rfl, cc, cd⟩ := FK_own_open cV
    have au := cW 0 _ rfl
    rw [Nat.add_zero, show ((ownd 82 k82 w.heap.size)).sz = 1 from rfl, Nat.mul_one] at au
    replace au := Option.some.inj (au.symm.trans ah)
    injection au with hva_ hvn_ hvc_
    rw [hva_] at cd
    rw [hvc_] at cc
    obtain ⟨vo_, ev_, hR_⟩ := Kd.FK_now cV
    injection ev_ with ev_
    subst ev_
    rw [hva_, hvc_] at hR_
    obtain ⟨ef, hv_⟩ : ∃ v_, v_ = (Value.slice cT (rd_Lparts d 0).length cU) := ⟨_, rfl⟩
    replace hR_ : Kd.R k82 82 _ w.heap.size (fun _ => True) (Value.slice cT (rd_Lparts d 0).length cU) (rd_Lparts d 0) := hR_
    rw [← hv_] at hR_
    rw [← hv_] at ah
    have aj := mk_ (show Kd.R k82 82 _ w.heap.size (fun _ => True) ef an from by rw [fd.out, fc.out, List.nil_append]; exact hR_)
    clear hva_ hvn_ hvc_ cd cc
    clear cW ee
    have hm : (0 < d.length) = True := eq_true (by omega)
    (try rw [show ((0 : Int)).toNat = 0 from rfl] at ah)
    (try rw [Addr.add_zero'] at ah)
    clear d1 d0
    replace bV := eq_true bV
    replace bW := eq_true bW
    clear hR_ hv_
    clear l
    go_upto_if 112 with (first | (refine gc_ 52 (some 111) Tryd.func52 #[.pointer (some ⟨g, 0, none⟩), .int .i64 5] ?_; (with_reducible refine mo_ (spec_l20Rd_pick.calls k2 g q J 5 f6 X y _ ?side1 ?side2 gR.out) ?_); (case side1 => exact IsS99.below a.out lt_); (case side2 => exact below_at HB.out); rintro iO ⟨hi, hb, hk⟩; replace aj := mk_ (Kd.R_mono (Kd.R_keep (IsS99.apart (show IsS99 y _ g q J from IsS99.below a.out lt_) (Kd.R_below aj.out lt_) (by decide)) hk (fun _ h => h.2)) (fun _ h => h.1)); replace HK := kc_ HK hk; replace HB := mk_ (hb); replace a := mk_ (hi); (try clear hb)))
    (try simp only [Act.put, z0_, z1_, z2_])
    go_cut [13] (fun gS wc => ∃ (kq : Nat) (s : List (S82)), Aside0 (spec_l20Term.j3 kq a2 s q X = some (r1, r2)) ∧ Aside0 (kq ≤ k2) ∧ Aside0 (Kd.R k82 82 wc w.heap.size (fun _ => True) gS s) ∧ Aside0 (IsS99 y wc g q X) ∧ Aside0 (KeepBut w wc g none) ∧ Aside0 (Below y.heap.size y wc))
    case first =>
     have H := de.out
     clear de
     revert H; refine ti_ (qfk_ fun gT av dz H => ?_) (qt_ fun av dz H => ?_)
     ·(first | rw [av] | (simp only [i64_w, i32_w]; rw [av]) | skip)
      have H' := mk_ H
      clear H
      go_wp2
      go_meet
      case rel => exact ⟨_, (an), H', ⟨by have := ak.out; have := bn.out; first | omega | exact Nat.le_refl _⟩, ⟨Kd.R_below aj.out lt_⟩, ⟨IsS99.below a.out lt_⟩, ⟨keep_at HK.out⟩, ⟨below_at HB.out⟩⟩
     (first | rw [av] | (simp only [i64_w, i32_w]; rw [av]) | skip)
     revert H; refine g_ (mt_ fun fe H => ?_)
     obtain ⟨f9, bx⟩ : ∃ y_ : List (S82), y_ = (an ++ [(⟨2, 0⟩ : S82)]) := ⟨_, rfl⟩
     first | (replace H := bn_ bx H; try dsimp only at H) | rw [← bx] at H
     have ff := mk_ bx
     clear bx
     have H' := mk_ H
     clear H
     go_wp2_with (first | ((with_reducible refine gate_builtin (b := .append) (xs := #[.tmp 113, .tmp 115]) rfl ?_); at_builtin; refine Kd.R_append k82 w.heap.size rfl (.tmp 113) (.tmp 115) 24 82 (.agg #[(.int .i64 0), (.int .i64 0)]) 16 rfl Tryd.underlying24 info82p rfl (by decide) (by omega) ef an (⟨2, 0⟩ : S82) [.int .i64 2, .int .i64 0] (fun _ => True) (fun _ => False) rfl rfl ?aP (fun _ hk => hk.elim) ?aF ?aO (Below.refl _ _) ?aS ?aL ?_; (case aP => exact k82_mkM _ _ _ (⟨2, 0⟩ : S82)); (case aF => exact (fun _ _ => trivial)); (case aO => exact (Kd.R_below aj.out lt_)); (case aS => exact (keep_size (w := w) (g := g) (row := none) (keep_at HK.out))); (case aL => have := fe.out; omega); intro h8 iP ho hb hg hat; rw [← ff.out] at ho; replace a := mk_ (IsS99.grown (IsS99.below a.out lt_) hg (IsS99.own_ne a.out aj.out (by decide))); replace HB := mk_ (below_weaken (below_at HB.out) HL.out hb); replace HK := mk_ (KeepBut.trans (keep_at HK.out) (KeepBut.of_grown hg g) (Kd.R_base2 aj.out)); have fg := mk_ (ho); (try clear aj); clear ho hb hg hat))
     go_meet
     case rel => exact ⟨_, (f9), H', ⟨by have := ak.out; have := bn.out; first | omega | exact Nat.le_refl _⟩, ⟨Kd.R_below fg.out lt_⟩, ⟨IsS99.below a.out lt_⟩, ⟨keep_at HK.out⟩, ⟨below_at HB.out⟩⟩
    clear de
    try clear bo
    try clear ea
    try clear bp
    try clear bq
    try clear bU
    try clear cw
    try clear cx
    try clear ed
    try clear fa
    try clear fb
    try clear gT
    try clear av
    try clear dz
    try clear ah
    try clear bV
    try clear bW
    obtain ⟨kq, s, HA, h9, r, a, HK, HB⟩ := hcut
    cases kq with
    | zero => exact absurd HA.out (by simp [spec_l20Term.j3])
    | succ ac =>
     have H := HA.out
     clear HA
     simp only [spec_l20Term.j3] at H
     replace H := bm_ H; obtain ⟨⟨ga, L⟩, dA, H⟩ := H
     try dsimp only at H
     by_cases dB : ga = true
     rotate_left
     ·replace dB := Bool.eq_false_iff.mpr dB
      subst dB
      have H1 : (some (s, L)) = some (r1, r2) := by rw [if_neg Bool.false_ne_true] at H; exact H
      clear H
      have H := H1
      clear H1
      simp only [Option.some.injEq, Prod.mk.injEq] at H
      obtain ⟨rfl, rfl⟩ := H
      go_wp2_with (first | (refine gc_ 55 (some 119) Tryd.func55 #[.pointer (some ⟨g, 0, none⟩), .int .i64 a2] ?_; (with_reducible refine mo_ (spec_l20Rd_odd.calls ac g q X a2 false L y _ ?side1 ?side2 dA.out) ?_); (case side1 => exact IsS99.below a.out lt_); (case side2 => exact below_at HB.out); rintro ia ⟨hi, hb, hk⟩; replace r := mk_ (Kd.R_mono (Kd.R_keep (IsS99.apart (show IsS99 y _ g q X from IsS99.below a.out lt_) (Kd.R_below r.out lt_) (by decide)) hk (fun _ h => h.2)) (fun _ h => h.1)); replace HK := kc_ HK hk; replace HB := mk_ (hb); replace a := mk_ (hi); (try clear hb)))
      go_ret
      exact ⟨_, by first | rfl | (simp [errW_none, errW_some] <;> rfl) | (simp only [← al, ← ai]; first | rfl | (simp [errW_none, errW_some] <;> rfl)) | (simp [*, errW_none, errW_some] <;> rfl), rl_ r.out, IsS99.below a.out lt_, below_at HB.out, keep_at HK.out⟩
     subst dB
     have H1 : ((spec_l20Rd_pick.f ac q L 3).bind fun aN => (if aN.1 = 0 then (some ((([] : List (S82))), aN.2)) else (if aN.1 = 1 then (if s.length < 8796093022208 then (some ((s ++ [(⟨5, 0⟩ : S82)]), aN.2)) else (none)) else ((spec_l20Rd_pick.f ac q aN.2 2).bind fun dC => (if 0 < (s.length : Int) then (some ((s.set (0 : Int).toNat (⟨dC.1, 6⟩ : S82)), dC.2)) else (none)))))) = some (r1, r2) := by rw [if_pos rfl] at H; exact H
     clear H
     have H := H1
     clear H1
     replace H := bm_ H; obtain ⟨⟨dg, a0⟩, eg, H⟩ := H
     try dsimp only at H
     revert H; refine it_ (qt_ fun fh fi H => ?_) (qfk_ fun iQ fh fi H => ?_)
     ·obtain ⟨gb, cA⟩ : ∃ y_ : List (S82), y_ = (([] : List (S82))) := ⟨_, rfl⟩
      replace H : (some (gb, a0)) = some (r1, r2) := by first | (rw [cA]; exact H) | exact H
      have dD := mk_ cA
      clear cA
      simp only [Option.some.injEq, Prod.mk.injEq] at H
      obtain ⟨rfl, rfl⟩ := H
      go_wp2_with (first | (refine gc_ 55 (some 119) Tryd.func55 #[.pointer (some ⟨g, 0, none⟩), .int .i64 a2] ?_; (with_reducible refine mo_ (spec_l20Rd_odd.calls ac g q X a2 true L y _ ?side1 ?side2 dA.out) ?_); (case side1 => exact IsS99.below a.out lt_); (case side2 => exact below_at HB.out); rintro iR ⟨hi, hb, hk⟩; replace r := mk_ (Kd.R_mono (Kd.R_keep (IsS99.apart (show IsS99 y _ g q X from IsS99.below a.out lt_) (Kd.R_below r.out lt_) (by decide)) hk (fun _ h => h.2)) (fun _ h => h.1)); replace HK := kc_ HK hk; replace HB := mk_ (hb); replace a := mk_ (hi); (try clear hb)) | (refine gc_ 52 (some 121) Tryd.func52 #[.pointer (some ⟨g, 0, none⟩), .int .i64 3] ?_; (with_reducible refine mo_ (spec_l20Rd_pick.calls ac g q L 3 dg a0 y _ ?side1 ?side2 eg.out) ?_); (case side1 => exact IsS99.below a.out lt_); (case side2 => exact below_at HB.out); rintro iS ⟨hi, hb, hk⟩; replace r := mk_ (Kd.R_mono (Kd.R_keep (IsS99.apart (show IsS99 y _ g q L from IsS99.below a.out lt_) (Kd.R_below r.out lt_) (by decide)) hk (fun _ h => h.2)) (fun _ h => h.1)); replace HK := kc_ HK hk; replace HB := mk_ (hb); replace a := mk_ (hi); (try clear hb)) | ((with_reducible refine gate_dst (N := 129) rfl ?_); refine Kd.R_lit k82 _ 82 ?hg (N := 129) ?hd (xs := ([] : List (S82))) (inner := []) (ok := fun _ => True) (okp := fun _ => True) ?hr ?hp (fun _ hk => hk) trivial (Below.refl _ _) (Nat.le_refl _) (by simp) ?_; (case hd => rfl); (case hg => rfl); (case hr => first | (go_simp; done) | (go_simp; rfl)); (case hp => exact (Reps.none _ _)); intro ic iT bY hb ag E; clear ag E; (first | rw [← dD.out] at bY | (simp only [Int.reduceToNat] at bY; rw [← dD.out] at bY)); have fj := mk_ (Kd.R_lower (Kd.R_new' bY (Kd.R_lt (Kd.R_below r.out lt_))) (keep_size (w := w) (g := g) (row := none) (keep_at HK.out))); replace a := mk_ (IsS99.below (IsS99.below a.out lt_) hb); replace HK := kb_ HK hb; replace HB := hs_ HB hb; (try clear r); clear hb bY))
      go_ret
      exact ⟨_, by first | rfl | (simp [errW_none, errW_some] <;> rfl) | (simp only [← al, ← ai]; first | rfl | (simp [errW_none, errW_some] <;> rfl)) | (simp [*, errW_none, errW_some] <;> rfl), by (with_reducible repeat (first | apply Kd.R_alloc | apply Kd.R_drewN | apply Kd.R_drew)); exact Kd.R_mono fj.out (fun _ hk => trivial), IsS99.below a.out lt_, below_at HB.out, keep_at HK.out⟩
     revert H; refine it_ (qt_ fun eh ei H => ?_) (qfk_ fun ie eh ei H => ?_)
     ·revert H; refine g_ (mt_ fun ej H => ?_)
      obtain ⟨ig, bz⟩ : ∃ y_ : List (S82), y_ = (s ++ [(⟨5, 0⟩ : S82)]) := ⟨_, rfl⟩
      first | (replace H := bn_ bz H; try dsimp only at H) | rw [← bz] at H
      have fk := mk_ bz
      clear bz
      simp only [Option.some.injEq, Prod.mk.injEq] at H
      obtain ⟨rfl, rfl⟩ := H
      go_wp2_with (first | (refine gc_ 55 (some 119) Tryd.func55 #[.pointer (some ⟨g, 0, none⟩), .int .i64 a2] ?_; (with_reducible refine mo_ (spec_l20Rd_odd.calls ac g q X a2 true L y _ ?side1 ?side2 dA.out) ?_); (case side1 => exact IsS99.below a.out lt_); (case side2 => exact below_at HB.out); rintro ii ⟨hi, hb, hk⟩; replace r := mk_ (Kd.R_mono (Kd.R_keep (IsS99.apart (show IsS99 y _ g q X from IsS99.below a.out lt_) (Kd.R_below r.out lt_) (by decide)) hk (fun _ h => h.2)) (fun _ h => h.1)); replace HK := kc_ HK hk; replace HB := mk_ (hb); replace a := mk_ (hi); (try clear hb)) | (refine gc_ 52 (some 121) Tryd.func52 #[.pointer (some ⟨g, 0, none⟩), .int .i64 3] ?_; (with_reducible refine mo_ (spec_l20Rd_pick.calls ac g q L 3 dg a0 y _ ?side1 ?side2 eg.out) ?_); (case side1 => exact IsS99.below a.out lt_); (case side2 => exact below_at HB.out); rintro ij ⟨hi, hb, hk⟩; replace r := mk_ (Kd.R_mono (Kd.R_keep (IsS99.apart (show IsS99 y _ g q L from IsS99.below a.out lt_) (Kd.R_below r.out lt_) (by decide)) hk (fun _ h => h.2)) (fun _ h => h.1)); replace HK := kc_ HK hk; replace HB := mk_ (hb); replace a := mk_ (hi); (try clear hb)) | ((with_reducible refine gate_builtin (b := .append) (xs := #[.tmp 132, .tmp 134]) rfl ?_); at_builtin; refine Kd.R_append k82 w.heap.size rfl (.tmp 132) (.tmp 134) 24 82 (.agg #[(.int .i64 0), (.int .i64 0)]) 16 rfl Tryd.underlying24 info82p rfl (by decide) (by omega) u13 s (⟨5, 0⟩ : S82) [.int .i64 5, .int .i64 0] (fun _ => True) (fun _ => False) rfl rfl ?aP (fun _ hk => hk.elim) ?aF ?aO (Below.refl _ _) ?aS ?aL ?_; (case aP => exact k82_mkM _ _ _ (⟨5, 0⟩ : S82)); (case aF => exact (fun _ _ => trivial)); (case aO => exact (Kd.R_below r.out lt_)); (case aS => exact (keep_size (w := w) (g := g) (row := none) (keep_at HK.out))); (case aL => have := ej.out; omega); intro ik il ho hb hg hat; rw [← fk.out] at ho; replace a := mk_ (IsS99.grown (IsS99.below a.out lt_) hg (IsS99.own_ne a.out r.out (by decide))); replace HB := mk_ (below_weaken (below_at HB.out) HL.out hb); replace HK := mk_ (KeepBut.trans (keep_at HK.out) (KeepBut.of_grown hg g) (Kd.R_base2 r.out)); have fl := mk_ (ho); (try clear r); clear ho hb hg hat))
      go_ret
      exact ⟨_, by first | rfl | (simp [errW_none, errW_some] <;> rfl) | (simp only [← al, ← ai]; first | rfl | (simp [errW_none, errW_some] <;> rfl)) | (simp [*, errW_none, errW_some] <;> rfl), rl_ fl.out, IsS99.below a.out lt_, below_at HB.out, keep_at HK.out⟩
     replace H := bm_ H; obtain ⟨⟨a3, gf⟩, gg, H⟩ := H
     try dsimp only at H
     revert H; refine g_ (fun ek H => ?_)
     have gU : decide (0 < (s.length : Int)) = true := decide_eq_true ek
     have gV : decide (0 < s.length) = true := decide_eq_true (by omega)
     clear ek
     obtain ⟨gh, bA⟩ : ∃ y_ : List (S82), y_ = (s.set (0 : Int).toNat (⟨a3, 6⟩ : S82)) := ⟨_, rfl⟩
     first | (replace H := bn_ bA H; try dsimp only at H) | rw [← bA] at H
     have fm := mk_ bA
     clear bA
     simp only [Option.some.injEq, Prod.mk.injEq] at H
     obtain ⟨rfl, rfl⟩ := H
     go_wp2_with (first | (refine gc_ 55 (some 119) Tryd.func55 #[.pointer (some ⟨g, 0, none⟩), .int .i64 a2] ?_; (with_reducible refine mo_ (spec_l20Rd_odd.calls ac g q X a2 true L y _ ?side1 ?side2 dA.out) ?_); (case side1 => exact IsS99.below a.out lt_); (case side2 => exact below_at HB.out); rintro im ⟨hi, hb, hk⟩; replace r := mk_ (Kd.R_mono (Kd.R_keep (IsS99.apart (show IsS99 y _ g q X from IsS99.below a.out lt_) (Kd.R_below r.out lt_) (by decide)) hk (fun _ h => h.2)) (fun _ h => h.1)); replace HK := kc_ HK hk; replace HB := mk_ (hb); replace a := mk_ (hi); (try clear hb)) | (refine gc_ 52 (some 121) Tryd.func52 #[.pointer (some ⟨g, 0, none⟩), .int .i64 3] ?_; (with_reducible refine mo_ (spec_l20Rd_pick.calls ac g q L 3 dg a0 y _ ?side1 ?side2 eg.out) ?_); (case side1 => exact IsS99.below a.out lt_); (case side2 => exact below_at HB.out); rintro ip ⟨hi, hb, hk⟩; replace r := mk_ (Kd.R_mono (Kd.R_keep (IsS99.apart (show IsS99 y _ g q L from IsS99.below a.out lt_) (Kd.R_below r.out lt_) (by decide)) hk (fun _ h => h.2)) (fun _ h => h.1)); replace HK := kc_ HK hk; replace HB := mk_ (hb); replace a := mk_ (hi); (try clear hb)) | (refine gc_ 52 (some 124) Tryd.func52 #[.pointer (some ⟨g, 0, none⟩), .int .i64 2] ?_; (with_reducible refine mo_ (spec_l20Rd_pick.calls ac g q a0 2 a3 gf y _ ?side1 ?side2 gg.out) ?_); (case side1 => exact IsS99.below a.out lt_); (case side2 => exact below_at HB.out); rintro aH ⟨hi, hb, hk⟩; replace r := mk_ (Kd.R_mono (Kd.R_keep (IsS99.apart (show IsS99 y _ g q a0 from IsS99.below a.out lt_) (Kd.R_below r.out lt_) (by decide)) hk (fun _ h => h.2)) (fun _ h => h.1)); replace HK := kc_ HK hk; replace HB := mk_ (hb); replace a := mk_ (hi); (try clear hb); have dh : 0 ≤ (0 : Int) := (by omega); have di : (0 : Int) < ((s.length : Int) : Int) := oa_; have hq : (0 < s.length) = True := eq_true (by omega); obtain ⟨O, dE, dF, dG, fn, hs, dH⟩ := Kd.R_form r.out (by omega); (first | cases dF | (injection dF with ea_ en_ ec_; (first | subst ea_ | (injection ea_ with ea_; subst ea_)); subst ec_; clear en_)); have dI := mk_ dG; have ht := mk_ dH; clear dG fn dH; obtain ⟨hu, el, dJ, bZ, b0⟩ := Kd.R_elem r.out z82 (0 : Int) dh di; obtain rfl := k82_openM dJ; have ce : aH.cell? ⟨O, (0 : Int).toNat * 2, none⟩ = some (.int .i64 ((rd_T82 s 0).f0)) := bZ 0 _ rfl; have cf : aH.cell? ⟨O, (0 : Int).toNat * 2 + 1, none⟩ = some (.int .i64 ((rd_T82 s 0).f1)) := bZ 1 _ rfl; have cg : aH.frozen? ⟨O, (0 : Int).toNat * 2, none⟩ = false := b0 0; have ch : aH.frozen? ⟨O, (0 : Int).toNat * 2 + 1, none⟩ = false := b0 1; (try clear dJ); clear el bZ b0; (try rw [show ((0 : Int)).toNat = 0 from rfl] at ce); (try simp only [Nat.reduceMul, Nat.zero_mul, Nat.zero_add, Nat.reduceAdd] at ce); (try rw [show ((0 : Int)).toNat = 0 from rfl] at cg); (try simp only [Nat.reduceMul, Nat.zero_mul, Nat.zero_add, Nat.reduceAdd] at cg); (try rw [show ((0 : Int)).toNat = 0 from rfl] at cf); (try simp only [Nat.reduceMul, Nat.zero_mul, Nat.zero_add, Nat.reduceAdd] at cf); (try rw [show ((0 : Int)).toNat = 0 from rfl] at ch); (try simp only [Nat.reduceMul, Nat.zero_mul, Nat.zero_add, Nat.reduceAdd] at ch); replace dh := eq_true dh; replace di := eq_true di; have dK := mk_ (show Kd.R k82 82 aH w.heap.size (fun _ => True) (.slice (some ⟨O, 0, none⟩) s.length dE) s from (Kd.R_below r.out lt_)); obtain ⟨hv, cX, dL, aQ, b1⟩ := Kd.R_elem dK.out z82 (0 : Int) (by omega) (by have h_ : (0 : Int) < ((s.length : Int) : Int) := oa_; first | exact h_ | (have e_ := (Kd.R_reads' r.out).1; omega) | simpa using h_); obtain rfl := k82_openM dL; have cB := Kd.R_seg dK.out (0 : Int) (by omega) (by have h_ : (0 : Int) < ((s.length : Int) : Int) := oa_; first | exact h_ | (have e_ := (Kd.R_reads' r.out).1; omega) | simpa using h_) (seg := [.int .i64 a3, .int .i64 6]) (j := 0) cX aQ (show 2 ≤ 2 from by decide) (x' := (⟨a3, 6⟩ : S82)) (k82_mkM _ _ _ (⟨a3, 6⟩ : S82) ) (fun _ hk => hk); have a4 := aQ 0 _ rfl; (try simp only [show (k82).sz = 2 from rfl, Nat.mul_one, Nat.add_zero] at a4); (try rw [show ((0 : Int)).toNat = 0 from rfl] at a4); (try simp only [Nat.reduceMul, Nat.zero_mul, Nat.zero_add, Nat.reduceAdd] at a4); have a5 := b1 0; (try simp only [show (k82).sz = 2 from rfl, Nat.mul_one, Nat.add_zero] at a5); (try rw [show ((0 : Int)).toNat = 0 from rfl] at a5); (try simp only [Nat.reduceMul, Nat.zero_mul, Nat.zero_add, Nat.reduceAdd] at a5); have a6 := aQ 1 _ rfl; (try simp only [show (k82).sz = 2 from rfl, Nat.mul_one, Nat.add_zero] at a6); (try rw [show ((0 : Int)).toNat = 0 from rfl] at a6); (try simp only [Nat.reduceMul, Nat.zero_mul, Nat.zero_add, Nat.reduceAdd] at a6); have a7 := b1 1; (try simp only [show (k82).sz = 2 from rfl, Nat.mul_one, Nat.add_zero] at a7); (try rw [show ((0 : Int)).toNat = 0 from rfl] at a7); (try simp only [Nat.reduceMul, Nat.zero_mul, Nat.zero_add, Nat.reduceAdd] at a7); (try clear dL); clear cX aQ b1) | ((with_reducible refine gate_store (t := 82) (p := 126) rfl ?_); refine store_event (t := 82) (p := 126) (v := ?vo_w112) (w1 := ((aH.setCell ⟨O, 0, none⟩ (.int .i64 a3)).setCell ⟨O, 1, none⟩ (.int .i64 6))) ?hg ?ho ?hn ?hr ?_; (case ho => rfl); (case hg => rfl); (case hn => rfl); (case hr => first | (go_simp; done) | (go_simp; rfl)); intro dj hw; have hg : aH.grownBy dj (some O) := (by rw [hw]; exact cB.2); have cY : Kd.R k82 82 dj w.heap.size (fun _ => True) (.slice (some ⟨O, 0, none⟩) s.length dE) gh := (by rw [hw, fm.out]; exact cB.1); clear cB; replace a := mk_ (IsS99.grown (IsS99.below a.out lt_) hg (IsS99.own_ne a.out r.out (by decide))); replace HB := mk_ ((by rw [hw]; exact below_set (below_set (HB.out) (Nat.le_trans HL.out dI.out)) (Nat.le_trans HL.out dI.out) : Below y.heap.size y dj)); replace HK := mk_ (KeepBut.trans (keep_at HK.out) (KeepBut.of_grown hg g) (Kd.R_base2 r.out)); replace r := mk_ (cY); clear hg hw cY))
     go_ret
     exact ⟨_, by first | rfl | (simp [errW_none, errW_some] <;> rfl) | (simp only [← al, ← ai]; first | rfl | (simp [errW_none, errW_some] <;> rfl)) | (simp [*, errW_none, errW_some] <;> rfl), rl_ r.out, IsS99.below a.out lt_, below_at HB.out, keep_at HK.out⟩
   have cw : decide (1 < (d.length : Int)) = true := decide_eq_true bU
   have cx : decide (1 < d.length) = true := decide_eq_true (by omega)
   clear bU
   replace H := bm_ H; obtain ⟨⟨o, dk⟩, gW, H⟩ := H
   try dsimp only at H
   have dl := mk_ H
   clear H
   obtain ⟨gi, D, gj⟩ := Kd.N_slice l.out
   subst gj
   go_upto_region 12 with (first | (refine gc_ 52 (some 52) Tryd.func52 #[.pointer (some ⟨g, 0, none⟩), .int .i64 (wrap64 ((d.length : Int) - 1))] ?_; (with_reducible refine mo_ (spec_l20Rd_pick.calls k2 g q J (wrap64 ((d.length : Int) - 1)) o dk y _ ?side1 ?side2 gW.out) ?_); (case side1 => exact IsS99.below a.out lt_); (case side2 => exact below_at HB.out); rintro iU ⟨hi, hb, hk⟩; replace l := mk_ (Kd.N_mono (Kd.N_keep (Kd.N_mono (ok := fun k_ => k_ ≠ g) (Kd.N_below l.out lt_) (fun k_ hk_ => (⟨hk_, hk_⟩ : _ ∧ k_ ≠ g))) hk (fun _ h => h.2)) (fun _ h => h.1)); replace HK := kc_ HK hk; replace HB := mk_ (hb); replace a := mk_ (hi); (try clear hb)))
   (try simp only [Act.put, z0_, z1_, z2_])
   go_cut [59] (fun gX wc => ∃ (kq : Nat) (aT : Bool) (z : Int), gX = .bool aT ∧ Aside0 (spec_l20Term.j2 kq a2 d W o aT q z = some (r1, r2)) ∧ Aside0 (kq ≤ k2) ∧ Aside0 (Kd.N (ownd 82 k82 w.heap.size) 24 wc w.heap.size (fun k_ => k_ ≠ g) (.slice gi d.length D) d) ∧ Aside0 (IsS99 y wc g q z) ∧ Aside0 (KeepBut w wc g none) ∧ Aside0 (Below y.heap.size y wc))
   case first =>
    have H := dl.out
    clear dl
    revert H; refine ti_ (df_g fun aw H => ?_) (dt_g fun aw H => ?_)
    ·(first | rw [aw] | (simp only [i64_w, i32_w]; rw [aw]) | skip)
     have H' := mk_ H
     clear H
     go_wp2
     go_meet
     case rel => exact ⟨_, (false), (dk), sm_, H', ⟨by have := ak.out; have := bn.out; first | omega | exact Nat.le_refl _⟩, ⟨Kd.N_below l.out lt_⟩, ⟨IsS99.below a.out lt_⟩, ⟨keep_at HK.out⟩, ⟨below_at HB.out⟩⟩
    (first | rw [aw] | (simp only [i64_w, i32_w]; rw [aw]) | skip)
    replace H := bm_ H; obtain ⟨⟨em, en⟩, gY, H⟩ := H
    try dsimp only at H
    have H' := mk_ H
    clear H
    go_wp2_with (first | (go_at_call 52; (with_reducible refine (spec_l20Rd_pick.calls k2 g q dk 4 em en y _ ?side1 ?side2 gY.out).mono ?_); (case side1 => exact IsS99.below a.out lt_); (case side2 => exact below_at HB.out); rintro e iV ⟨rfl, hi, hb, hk⟩; replace l := mk_ (Kd.N_mono (Kd.N_keep (Kd.N_mono (ok := fun k_ => k_ ≠ g) (Kd.N_below l.out lt_) (fun k_ hk_ => (⟨hk_, hk_⟩ : _ ∧ k_ ≠ g))) hk (fun _ h => h.2)) (fun _ h => h.1)); replace HK := kc_ HK hk; replace HB := mk_ (hb); replace a := mk_ (hi); (try clear hb)))
    go_meet
    case rel => exact ⟨_, ((em == 0)), (en), sm_, H', ⟨by have := ak.out; have := bn.out; first | omega | exact Nat.le_refl _⟩, ⟨Kd.N_below l.out lt_⟩, ⟨IsS99.below a.out lt_⟩, ⟨keep_at HK.out⟩, ⟨below_at HB.out⟩⟩
   clear dl
   try clear bo
   try clear ea
   try clear bp
   try clear bq
   try clear bU
   try clear cw
   try clear cx
   try clear aw
   obtain ⟨kq, aT, z, rfl, HA, cC, l, a, HK, HB⟩ := hcut
   cases kq with
   | zero => exact absurd HA.out (by simp [spec_l20Term.j2])
   | succ ad =>
    have H := HA.out
    clear HA
    simp only [spec_l20Term.j2] at H
    by_cases dM : aT = true
    ·subst dM
     have H1 : ((some (([] : List (S82)) : List (S82))).bind fun aI => (if 0 ≤ o then (if o < (d.length : Int) then (if aI.length + (rd_Lparts d o).length < 8796093022208 then ((some (aI ++ (rd_Lparts d o) : List (S82))).bind fun ao => (if ao.length < 8796093022208 then (spec_l20Term.l1 ad a2 (d.set (o : Int).toNat (ao ++ [(⟨2, 0⟩ : S82)])) (wrap64 (W - 1)) q z) else (none))) else (none)) else (none)) else (none))) = some (r1, r2) := by rw [if_pos rfl] at H; exact H
     clear H
     have H := H1
     clear H1
     obtain ⟨aI, cD⟩ : ∃ y_ : List (S82), y_ = (([] : List (S82))) := ⟨_, rfl⟩
     replace H : (if 0 ≤ o then (if o < (d.length : Int) then (if aI.length + (rd_Lparts d o).length < 8796093022208 then ((some (aI ++ (rd_Lparts d o) : List (S82))).bind fun ao => (if ao.length < 8796093022208 then (spec_l20Term.l1 ad a2 (d.set (o : Int).toNat (ao ++ [(⟨2, 0⟩ : S82)])) (wrap64 (W - 1)) q z) else (none))) else (none)) else (none)) else (none)) = some (r1, r2) := by first | (rw [cD]; exact H) | exact H
     have dN := mk_ cD
     clear cD
     revert H; refine g_ (dt_ fun hx => g_ (dt_ fun hy => g_ (mt_ fun fo H => ?_)))
     obtain ⟨ao, bB⟩ : ∃ y_ : List (S82), y_ = (aI ++ (rd_Lparts d o)) := ⟨_, rfl⟩
     first | (replace H := bn_ bB H; try dsimp only at H) | rw [← bB] at H
     have fp := mk_ bB
     clear bB
     revert H; refine g_ (mt_ fun fq H => ?_)
     obtain ⟨eo, bC⟩ : ∃ y_ : List (S82), y_ = (ao ++ [(⟨2, 0⟩ : S82)]) := ⟨_, rfl⟩
     first | (replace H := bn_ bC H; try dsimp only at H) | rw [← bC] at H
     have fr := mk_ bC
     clear bC
     obtain ⟨ep, bD⟩ : ∃ y_ : List (List (S82)), y_ = (d.set (o : Int).toNat eo) := ⟨_, rfl⟩
     first | (replace H := bn_ bD H; try dsimp only at H) | rw [← bD] at H
     have fs := mk_ bD
     clear bD
     have H' := mk_ H
     clear H
     go_wp2_with (first | ((with_reducible refine gate_dst (N := 64) rfl ?_); refine Kd.R_lit k82 _ 82 ?hg (N := 64) ?hd (xs := ([] : List (S82))) (inner := []) (ok := fun _ => True) (okp := fun _ => True) ?hr ?hp (fun _ hk => hk) trivial (Below.refl _ _) (Nat.le_refl _) (by simp) ?_; (case hd => rfl); (case hg => rfl); (case hr => first | (go_simp; done) | (go_simp; rfl)); (case hp => exact (Reps.none _ _)); intro gl iW a8 hb ag E; clear ag E; (first | rw [← dN.out] at a8 | (simp only [Int.reduceToNat] at a8; rw [← dN.out] at a8)); replace l := mk_ (Kd.N_elder' (Kd.N_below l.out lt_) (Kd.R_base a8) hb); have bE := mk_ (Kd.R_lower a8 (keep_size (w := w) (g := g) (row := none) (keep_at HK.out))); replace a := mk_ (IsS99.below (IsS99.below a.out lt_) hb); replace HK := kb_ HK hb; replace HB := hs_ HB hb; clear hb a8; have cE : 0 ≤ (o : Int) := oa_; have cF : o < (d.length : Int) := oa_; obtain ⟨hz, gZ, g0, gn, ci, cj, ck⟩ := at_Lparts (own_C (Kd.N_reads' l.out).2.2) o cE cF; cases gn; obtain ⟨hA, er, es, cZ⟩ := Kd.N_get l.out [] o cE (by first | exact cF | exact oa_ | (have e_ := (Kd.N_reads' l.out).1; omega)); obtain ⟨gD, gE, rfl, a9, ba⟩ := FK_own_open es; have ax := cZ 0 _ rfl; rw [Nat.add_zero, show ((ownd 82 k82 w.heap.size)).sz = 1 from rfl, Nat.mul_one] at ax; replace ax := Option.some.inj (ax.symm.trans ci); injection ax with hva_ hvn_ hvc_; rw [hva_] at ba; rw [hvc_] at a9; have bb := mk_ (show Kd.V k82 82 _ w.heap.size _ _ (rd_Lparts d o) from Kd.V_mk a9 ba); clear hva_ hvn_ hvc_ ba a9; clear cZ er; have d2 := mk_ ck; have gF := mk_ cj; clear ck cj; replace cE := eq_true cE; replace cF := eq_true cF) | ((with_reducible refine gate_builtin (b := .append) (xs := #[.tmp 64, .tmp 68]) rfl ?_); at_builtin; refine Kd.R_append_rows k82 w.heap.size rfl (.tmp 64) (.tmp 68) 24 82 (.agg #[(.int .i64 0), (.int .i64 0)]) 16 rfl Tryd.underlying24 info82p rfl (by decide) (by omega) gl aI (rd_Lparts d o) _ _ _ (fun _ => True) (fun _ => False) rfl rfl ?aO ?aR (fun _ _ h => h) (fun _ h => h.elim) ?aF (Below.refl _ _) ?aS ?aL ?_; (case aR => repeat (first | exact (Kd.C_below d2.out lt_) | (with_reducible refine Kd.C_alloc ?_ _) | (with_reducible refine Kd.C_drewN ?_ _) | (with_reducible refine Kd.C_drew ?_))); (case aF => exact (fun _ _ => trivial)); (case aO => exact (Kd.R_below bE.out lt_)); (case aS => exact (keep_size (w := w) (g := g) (row := none) (keep_at HK.out))); (case aL => have := fo.out; omega); intro gp iX ho hb hg hat; rw [← fp.out] at ho; replace l := mk_ (Kd.N_afterv (ok := (fun k_ => k_ ≠ g)) (Kd.N_below l.out lt_) hg hat); replace a := mk_ (IsS99.grown (IsS99.below a.out lt_) hg (IsS99.own_ne a.out bE.out (by decide))); replace HB := mk_ (below_weaken (below_at HB.out) HL.out hb); replace HK := mk_ (KeepBut.trans (keep_at HK.out) (KeepBut.of_grown hg g) (Kd.R_base2 bE.out)); have bF := mk_ (ho); (try clear bb bE); clear ho hb hg hat) | ((with_reducible refine gate_builtin (b := .append) (xs := #[.tmp 69, .tmp 71]) rfl ?_); at_builtin; refine Kd.R_append k82 w.heap.size rfl (.tmp 69) (.tmp 71) 24 82 (.agg #[(.int .i64 0), (.int .i64 0)]) 16 rfl Tryd.underlying24 info82p rfl (by decide) (by omega) gp ao (⟨2, 0⟩ : S82) [.int .i64 2, .int .i64 0] (fun _ => True) (fun _ => False) rfl rfl ?aP (fun _ hk => hk.elim) ?aF ?aO (Below.refl _ _) ?aS ?aL ?_; (case aP => exact k82_mkM _ _ _ (⟨2, 0⟩ : S82)); (case aF => exact (fun _ _ => trivial)); (case aO => exact (Kd.R_below bF.out lt_)); (case aS => exact (keep_size (w := w) (g := g) (row := none) (keep_at HK.out))); (case aL => have := fq.out; omega); intro eu ew ho hb hg hat; rw [← fr.out] at ho; replace l := mk_ (Kd.N_afterv (ok := (fun k_ => k_ ≠ g)) (Kd.N_below l.out lt_) hg hat); replace a := mk_ (IsS99.grown (IsS99.below a.out lt_) hg (IsS99.own_ne a.out bF.out (by decide))); replace HB := mk_ (below_weaken (below_at HB.out) HL.out hb); replace HK := mk_ (KeepBut.trans (keep_at HK.out) (KeepBut.of_grown hg g) (Kd.R_base2 bF.out)); have cG := mk_ (ho); (try clear bb bF); clear ho hb hg hat; have ex : 0 ≤ (o : Int) := oa_; have ey : (o : Int) < ((d.length : Int) : Int) := oa_; obtain ⟨b2, iq, ez, eA, gq, ir, eB⟩ := Kd.N_form l.out (by omega); (first | cases ez | (injection ez with ea_ en_ ec_; (first | subst ea_ | (injection ea_ with ea_; subst ea_)); subst ec_; clear en_)); have gr := mk_ eA; have iu := mk_ eB; clear eA gq eB; (first | simp only [add_plain] at ci | skip); obtain ⟨iv, ft, eC, dO, dP⟩ := Kd.N_elem l.out [] (o : Int) ex ey; obtain ⟨g1, g2, rfl, g3, g4⟩ := FK_own_open eC; have eD := dO 0 _ rfl; have eE := dP 0; (try simp only [show ((ownd 82 k82 w.heap.size)).sz = 1 from rfl, Nat.mul_one, Nat.add_zero] at eD); (try simp only [show ((ownd 82 k82 w.heap.size)).sz = 1 from rfl, Nat.mul_one, Nat.add_zero] at eE); (try clear eC); clear ft dO dP; replace ex := eq_true ex; replace ey := eq_true ey; have eF := mk_ (show Kd.N (ownd 82 k82 w.heap.size) 24 ew w.heap.size (fun k_ => k_ ≠ g) (.slice (some ⟨b2, 0, none⟩) d.length D) d from (Kd.N_below (Kd.N_mono l.out (fun _ hk => hk.1)) lt_)); obtain ⟨iw, dQ, eG, cH, dR⟩ := Kd.N_elem eF.out [] (o : Int) (oa_) (by have h_ : (o : Int) < ((d.length : Int) : Int) := oa_; first | exact h_ | (have e_ := (Kd.N_reads' l.out).1; omega) | simpa using h_); obtain ⟨g5, g6, rfl, g7, g8⟩ := FK_own_open eG; have b3 := Kd.N_seg eF.out (o : Int) (oa_) (by have h_ : (o : Int) < ((d.length : Int) : Int) := oa_; first | exact h_ | (have e_ := (Kd.N_reads' l.out).1; omega) | simpa using h_) (seg := [eu]) (j := 0) dQ cH (show 1 ≤ 1 from by decide) (x' := eo) (FK_own_mk (Kd.R_mono (ok' := (fun k_ => ((fun k_ => k_ ≠ g)) k_ ∧ k_ ≠ b2)) (IsS99.apart a.out (Kd.R_apart' (cG.out) (Kd.N_typed l.out) (by decide)) (by decide)) (fun k_ hk => ⟨hk.2, fun e_ => (hk.1.2) (by rw [e_]; rfl)⟩))) (fun _ hk => hk); have eH := cH 0 _ rfl; (try simp only [show ((ownd 82 k82 w.heap.size)).sz = 1 from rfl, Nat.mul_one, Nat.add_zero] at eH); have eI := dR 0; (try simp only [show ((ownd 82 k82 w.heap.size)).sz = 1 from rfl, Nat.mul_one, Nat.add_zero] at eI); (try clear eG); clear dQ cH dR; (try simp only [show ((ownd 82 k82 w.heap.size)).sz = 1 from rfl, Nat.mul_one, Nat.add_zero] at b3); (try simp only [show ((ownd 82 k82 w.heap.size)).sz = 1 from rfl, Nat.mul_one, Nat.add_zero] at b3)) | ((with_reducible refine gate_store (t := 24) (p := 73) rfl ?_); refine store_event (t := 24) (p := 73) (v := ?vo_w48) (w1 := (ew.setCell ⟨b2, (o : Int).toNat, none⟩ (eu))) ?hg ?ho ?hn ?hr ?_; (case ho => rfl); (case hg => rfl); (case hn => rfl); (case hr => first | (go_simp; done) | (go_simp; rfl) | (obtain ⟨_, _, e_⟩ := Kd.R_slice cG.out; subst e_; first | (go_simp; done) | (go_simp; rfl))); intro eJ hw; have hg : ew.grownBy eJ (some b2) := (by rw [hw]; exact b3.2); have cY : Kd.N (ownd 82 k82 w.heap.size) 24 eJ w.heap.size (fun k_ => k_ ≠ g) (.slice (some ⟨b2, 0, none⟩) d.length D) ep := (by rw [hw, fs.out]; exact b3.1); clear b3; replace a := mk_ (IsS99.grown (IsS99.below a.out lt_) hg (IsS99.own_neN a.out l.out (by decide))); replace HB := mk_ ((by rw [hw]; exact below_set (HB.out) (Nat.le_trans HL.out gr.out) : Below y.heap.size y eJ)); replace HK := mk_ (KeepBut.trans (keep_at HK.out) (KeepBut.of_grown hg g) (Kd.N_base2 l.out)); replace l := mk_ (cY); (try clear bb cG); clear hg hw cY))
     go_roundg ad
     case measure => have := ak.out; have := bn.out; have := cC.out; omega
     case rel => exact ⟨(ep), (wrap64 (W - 1)), (z), sm_, H', ⟨by have := ak.out; have := bn.out; have := cC.out; omega⟩, ⟨Kd.N_below l.out lt_⟩, ⟨IsS99.below a.out lt_⟩, ⟨keep_at HK.out⟩, ⟨below_at HB.out⟩⟩
    replace dM := Bool.eq_false_iff.mpr dM
    subst dM
    have H1 : ((some (([] : List (S82)) : List (S82))).bind fun aJ => (if 0 ≤ o then (if o < (d.length : Int) then (if aJ.length + (rd_Lparts d o).length < 8796093022208 then ((some (aJ ++ (rd_Lparts d o) : List (S82))).bind fun ap => (if 0 ≤ (wrap64 (o + 1)) then (if (wrap64 (o + 1)) < (d.length : Int) then (if ap.length + (rd_Lparts d (wrap64 (o + 1))).length < 8796093022208 then ((some (ap ++ (rd_Lparts d (wrap64 (o + 1))) : List (S82))).bind fun aq => ((spec_l20Rd_pick.f ad q z 3).bind fun aU => (if aq.length < 8796093022208 then ((some (([] : List (List (S82))) : List (List (S82)))).bind fun ae => (if o ≤ (d.length : Int) then ((some (d.take (o : Int).toNat : List (List (S82)))).bind fun G => (if ae.length + G.length < 5864062014805 then ((some (ae ++ G : List (List (S82)))).bind fun Y => (if Y.length < 5864062014805 then ((some (Y ++ [(aq ++ [(⟨wrap64 (3 + aU.1), 0⟩ : S82)])] : List (List (S82)))).bind fun Z => (if 0 ≤ (wrap64 (o + 2)) then (if (wrap64 (o + 2)) ≤ (d.length : Int) then ((some (d.drop ((wrap64 (o + 2)) : Int).toNat : List (List (S82)))).bind fun B => (if Z.length + B.length < 5864062014805 then (spec_l20Term.l1 ad a2 (Z ++ B) W q aU.2) else (none))) else (none)) else (none))) else (none))) else (none))) else (none))) else (none)))) else (none)) else (none)) else (none))) else (none)) else (none)) else (none))) = some (r1, r2) := by rw [if_neg Bool.false_ne_true] at H; exact H
    clear H
    have H := H1
    clear H1
    obtain ⟨aJ, cI⟩ : ∃ y_ : List (S82), y_ = (([] : List (S82))) := ⟨_, rfl⟩
    replace H : (if 0 ≤ o then (if o < (d.length : Int) then (if aJ.length + (rd_Lparts d o).length < 8796093022208 then ((some (aJ ++ (rd_Lparts d o) : List (S82))).bind fun ap => (if 0 ≤ (wrap64 (o + 1)) then (if (wrap64 (o + 1)) < (d.length : Int) then (if ap.length + (rd_Lparts d (wrap64 (o + 1))).length < 8796093022208 then ((some (ap ++ (rd_Lparts d (wrap64 (o + 1))) : List (S82))).bind fun aq => ((spec_l20Rd_pick.f ad q z 3).bind fun aU => (if aq.length < 8796093022208 then ((some (([] : List (List (S82))) : List (List (S82)))).bind fun ae => (if o ≤ (d.length : Int) then ((some (d.take (o : Int).toNat : List (List (S82)))).bind fun G => (if ae.length + G.length < 5864062014805 then ((some (ae ++ G : List (List (S82)))).bind fun Y => (if Y.length < 5864062014805 then ((some (Y ++ [(aq ++ [(⟨wrap64 (3 + aU.1), 0⟩ : S82)])] : List (List (S82)))).bind fun Z => (if 0 ≤ (wrap64 (o + 2)) then (if (wrap64 (o + 2)) ≤ (d.length : Int) then ((some (d.drop ((wrap64 (o + 2)) : Int).toNat : List (List (S82)))).bind fun B => (if Z.length + B.length < 5864062014805 then (spec_l20Term.l1 ad a2 (Z ++ B) W q aU.2) else (none))) else (none)) else (none))) else (none))) else (none))) else (none))) else (none)))) else (none)) else (none)) else (none))) else (none)) else (none)) else (none)) = some (r1, r2) := by first | (rw [cI]; exact H) | exact H
    have dS := mk_ cI
    clear cI
    revert H; refine g_ (dt_ fun hC => g_ (dt_ fun hD => g_ (mt_ fun fu H => ?_)))
    obtain ⟨ap, bG⟩ : ∃ y_ : List (S82), y_ = (aJ ++ (rd_Lparts d o)) := ⟨_, rfl⟩
    first | (replace H := bn_ bG H; try dsimp only at H) | rw [← bG] at H
    have fv := mk_ bG
    clear bG
    obtain ⟨af, bH⟩ : ∃ j_ : Int, (wrap64 (o + 1)) = j_ := ⟨_, rfl⟩
    first | rw [bH] at H | simp only [bH] at H
    have g9 : (IntKind.i64.wrap (o + 1)) = af := (i64_w _).trans bH
    revert H; refine g_ (dt_ fun hE => g_ (dt_ fun hF => g_ (mt_ fun fw H => ?_)))
    obtain ⟨aq, bI⟩ : ∃ y_ : List (S82), y_ = (ap ++ (rd_Lparts d (af))) := ⟨_, rfl⟩
    first | (replace H := bn_ bI H; try dsimp only at H) | rw [← bI] at H
    have fx := mk_ bI
    clear bI
    replace H := bm_ H; obtain ⟨⟨b4, dm⟩, fM, H⟩ := H
    try dsimp only at H
    revert H; refine g_ (mt_ fun fy H => ?_)
    obtain ⟨b5, bJ⟩ : ∃ y_ : List (S82), y_ = (aq ++ [(⟨wrap64 (3 + b4), 0⟩ : S82)]) := ⟨_, rfl⟩
    first | (replace H := bn_ bJ H; try dsimp only at H) | rw [← bJ] at H
    have fz := mk_ bJ
    clear bJ
    obtain ⟨ae, cJ⟩ : ∃ y_ : List (List (S82)), y_ = (([] : List (List (S82)))) := ⟨_, rfl⟩
    replace H : (if o ≤ (d.length : Int) then ((some (d.take (o : Int).toNat : List (List (S82)))).bind fun G => (if ae.length + G.length < 5864062014805 then ((some (ae ++ G : List (List (S82)))).bind fun Y => (if Y.length < 5864062014805 then ((some (Y ++ [b5] : List (List (S82)))).bind fun Z => (if 0 ≤ (wrap64 (o + 2)) then (if (wrap64 (o + 2)) ≤ (d.length : Int) then ((some (d.drop ((wrap64 (o + 2)) : Int).toNat : List (List (S82)))).bind fun B => (if Z.length + B.length < 5864062014805 then (spec_l20Term.l1 ad a2 (Z ++ B) W q dm) else (none))) else (none)) else (none))) else (none))) else (none))) else (none)) = some (r1, r2) := by first | (rw [cJ]; exact H) | exact H
    have dT := mk_ cJ
    clear cJ
    have hG := eq_true (oa_ : 0 ≤ o)
    revert H; refine g_ (et_ fun hH hJ H => ?_)
    obtain ⟨G, bK⟩ : ∃ y_ : List (List (S82)), y_ = (d.take (o : Int).toNat) := ⟨_, rfl⟩
    first | (replace H := bn_ bK H; try dsimp only at H) | rw [← bK] at H
    have dU := mk_ bK
    clear bK
    revert H; refine g_ (mt_ fun fA H => ?_)
    obtain ⟨Y, bL⟩ : ∃ y_ : List (List (S82)), y_ = (ae ++ G) := ⟨_, rfl⟩
    first | (replace H := bn_ bL H; try dsimp only at H) | rw [← bL] at H
    have fB := mk_ bL
    clear bL
    revert H; refine g_ (mt_ fun fC H => ?_)
    obtain ⟨Z, bM⟩ : ∃ y_ : List (List (S82)), y_ = (Y ++ [b5]) := ⟨_, rfl⟩
    first | (replace H := bn_ bM H; try dsimp only at H) | rw [← bM] at H
    have fD := mk_ bM
    clear bM
    obtain ⟨aa, aV⟩ : ∃ j_ : Int, (wrap64 (o + 2)) = j_ := ⟨_, rfl⟩
    first | rw [aV] at H | simp only [aV] at H
    (try rw [aV] at fM)
    have ha : (IntKind.i64.wrap (o + 2)) = aa := (i64_w _).trans aV
    revert H; refine g_ (et_ fun hL hM => g_ (et_ fun hN hO H => ?_))
    obtain ⟨B, bN⟩ : ∃ y_ : List (List (S82)), y_ = (d.drop ((aa) : Int).toNat) := ⟨_, rfl⟩
    first | (replace H := bn_ bN H; try dsimp only at H) | rw [← bN] at H
    have dV := mk_ bN
    clear bN
    revert H; refine g_ (mt_ fun fE H => ?_)
    obtain ⟨gs, bO⟩ : ∃ y_ : List (List (S82)), y_ = (Z ++ B) := ⟨_, rfl⟩
    first | (replace H := bn_ bO H; try dsimp only at H) | rw [← bO] at H
    have fG := mk_ bO
    clear bO
    have H' := mk_ H
    clear H
    try go_wp2
    replace l := mk_ (Kd.N_drew l.out)
    replace a := mk_ (IsS99.drew a.out)
    replace HK := mk_ (keep_drew HK.out)
    replace HB := mk_ (below_drew1 HB.out)
    have cK : 0 ≤ (o : Int) := oa_
    have cL : o < (d.length : Int) := oa_
    obtain ⟨A, eK, eL, gt, bc, cl, cm⟩ := at_Lparts (own_C (Kd.N_reads' l.out).2.2) o cK cL
    cases gt
    obtain ⟨hP, eM, eN, c0⟩ := Kd.N_get l.out [] o cK (by first | exact cL | exact oa_ | (have e_ := (Kd.N_reads' l.out).1; omega))
    obtain ⟨gG, gH, rfl, be, bf⟩ := FK_own_open eN
    have ay := c0 0 _ rfl
    rw [Nat.add_zero, show ((ownd 82 k82 w.heap.size)).sz = 1 from rfl, Nat.mul_one] at ay
    replace ay := Option.some.inj (ay.symm.trans bc)
    injection ay with hva_ hvn_ hvc_
    rw [hva_] at bf
    rw [hvc_] at be
    have u := mk_ (show Kd.V k82 82 _ w.heap.size _ _ (rd_Lparts d o) from Kd.V_mk be bf)
    clear hva_ hvn_ hvc_ bf be
    clear c0 eM
    have d3 := mk_ cm
    have gI := mk_ cl
    clear cm cl
    replace cK := eq_true cK
    replace cL := eq_true cL
    have cM : 0 ≤ ((af) : Int) := oa_
    have cN : (af) < (d.length : Int) := oa_
    obtain ⟨fH, eO, eP, gu, bg, cn, co⟩ := at_Lparts (own_C (Kd.N_reads' l.out).2.2) (af) cM cN
    obtain rfl : A = fH := (by injection gu)
    obtain ⟨hQ, eQ, eR, da⟩ := Kd.N_get l.out [] (af) cM (by first | exact cN | exact oa_ | (have e_ := (Kd.N_reads' l.out).1; omega))
    obtain ⟨gJ, gK, rfl, bh, bj⟩ := FK_own_open eR
    have az := da 0 _ rfl
    rw [Nat.add_zero, show ((ownd 82 k82 w.heap.size)).sz = 1 from rfl, Nat.mul_one] at az
    replace az := Option.some.inj (az.symm.trans bg)
    injection az with hva_ hvn_ hvc_
    rw [hva_] at bj
    rw [hvc_] at bh
    have x := mk_ (show Kd.V k82 82 _ w.heap.size _ _ (rd_Lparts d (af)) from Kd.V_mk bh bj)
    clear hva_ hvn_ hvc_ bj bh
    clear da eQ
    have d4 := mk_ co
    have gL := mk_ cn
    clear co cn
    replace cM := eq_true cM
    replace cN := eq_true cN
    refine start_ (n := 19) (S := fun w' => w'.cell? (A.add (o).toNat) = some (.slice eK (rd_Lparts d o).length eL) ∧ w'.cell? (A.add ((af)).toNat) = some (.slice eO (rd_Lparts d (af)).length eP)) (ds := [11, 13, 16, 17]) #[false, false, false, false, false, false, false, false, false, false, false, false, false, false, false, false, false, false, false] (by kernel_rfl) rfl rfl ⟨bc, bg⟩ (fun I => ?_)
    generalize wc.drew = wd_ at l a HK HB u x d3 d4 bc bg I ⊢
    refine pur_ 1 (some 75) #[false, true, false, false, false, false, false, false, false, false, false, false, false, false, false, false, false, false, false] (by kernel_rfl) ?_
    refine pur_ 2 (some 76) #[false, true, true, false, false, false, false, false, false, false, false, false, false, false, false, false, false, false, false] (by kernel_rfl) ?_
    refine pur_ 3 (some 77) #[false, true, true, true, false, false, false, false, false, false, false, false, false, false, false, false, false, false, false] (by kernel_rfl) ?_
    refine pur_ 6 (some 80) #[false, true, true, true, false, false, true, false, false, false, false, false, false, false, false, false, false, false, false] (by kernel_rfl) ?_
    refine pur_ 7 (some 81) #[false, true, true, true, false, false, true, true, false, false, false, false, false, false, false, false, false, false, false] (by kernel_rfl) ?_
    refine pur_ 8 (some 82) #[false, true, true, true, false, false, true, true, true, false, false, false, false, false, false, false, false, false, false] (by kernel_rfl) ?_
    refine pur_ 9 (some 83) #[false, true, true, true, false, false, true, true, true, true, false, false, false, false, false, false, false, false, false] (by kernel_rfl) ?_
    refine pur_ 12 (some 86) #[false, true, true, true, false, false, true, true, true, true, false, false, true, false, false, false, false, false, false] (by kernel_rfl) ?_
    refine tak_ 4 (some 78) #[false, true, true, true, true, false, true, true, true, true, false, false, true, false, false, false, false, false, false] (by kernel_rfl) I ?_
    refine tak_ 10 (some 84) #[false, true, true, true, true, false, true, true, true, true, true, false, true, false, false, false, false, false, false] (by kernel_rfl) I ?_
    refine one_ (i := 0) (N := some 74) #[true, true, true, true, true, false, true, true, true, true, true, false, true, false, false, false, false, false, false] rfl rfl (by kernel_rfl) (by decide) (fun K hK => ?_)
    refine Kd.R_lit_step k82 _ 82 (by rfl) (N := 74) rfl (xs := ([] : List (S82))) (inner := []) (ok := fun _ => True) (okp := fun _ => True) ?hr ?hp (fun _ hk => hk) trivial (Below.refl _ _) (Nat.le_refl _) (by simp) ?_
    (case hr => first | (go_simp; done) | (go_simp; rfl))
    (case hp => exact (Reps.none _ _))
    intro gv iY ar hb ag E
    clear ag E
    (first | rw [← dS.out] at ar | (simp only [Int.reduceToNat] at ar; rw [← dS.out] at ar))
    have eS := mk_ (Kd.V_elder' u.out (Kd.R_base ar) hb)
    have b6 := mk_ (Kd.V_elder' x.out (Kd.R_base ar) hb)
    have b7 := cell_old I.1 hb
    have b8 := cell_old I.2 hb
    clear u
    clear x
    clear I
    have u := eS
    have x := b6
    clear eS b6
    replace l := mk_ (Kd.N_elder' (Kd.N_below l.out lt_) (Kd.R_base ar) hb)
    have bP := mk_ (Kd.R_lower ar (keep_size (w := w) (g := g) (row := none) (keep_at HK.out)))
    replace a := mk_ (IsS99.below (IsS99.below a.out lt_) hb)
    replace HK := kb_ HK hb
    replace HB := hs_ HB hb
    clear hb ar
    refine hK.out _ _ ⟨b7, b8⟩ (fun I => ?_)
    clear hK K
    refine nor_ (some 74) ?_
    clear b7 b8
    refine one_ (i := 5) (N := some 79) #[true, true, true, true, true, true, true, true, true, true, true, false, true, false, false, false, false, false, false] rfl rfl (by kernel_rfl) (by decide) (fun K hK => ?_)
    refine Kd.R_append_rows_step k82 w.heap.size (by rfl) (.tmp 74) (.tmp 78) 24 82 (.agg #[(.int .i64 0), (.int .i64 0)]) 16 rfl Tryd.underlying24 info82p rfl (by decide) (by omega) gv aJ (rd_Lparts d o) _ _ _ (fun _ => True) (fun _ => False) rfl rfl ?aO ?aR (fun _ _ h => h) (fun _ h => h.elim) ?aF (Below.refl _ _) ?aS ?aL ?_
    (case aR => exact Kd.F_now (Kd.V_F u.out))
    (case aF => exact (fun _ _ => trivial))
    (case aO => exact (Kd.R_below bP.out lt_))
    (case aS => exact (keep_size (w := w) (g := g) (row := none) (keep_at HK.out)))
    (case aL => have := fu.out; omega)
    intro gy iZ ho hb hg hat
    rw [← fv.out] at ho
    have b7 := cell_apart I.1 hg (l.out.1 _ rfl).2
    have b8 := cell_apart I.2 hg (l.out.1 _ rfl).2
    clear I
    have fN := mk_ (Kd.N_afterv (ok := (fun k_ => k_ ≠ g)) (Kd.N_below l.out lt_) hg hat)
    have fO := mk_ (IsS99.grown (IsS99.below a.out lt_) hg (IsS99.own_ne a.out bP.out (by decide)))
    have fP := mk_ (Kd.V_afterv (ok := (fun k_ => some k_ ≠ (.slice (some A) d.length D : Value).ownBlock ∧ k_ ≠ g)) (Kd.V_mono u.out (fun _ hk => ⟨⟨hk.1.2, hk.1.1⟩, hk.2⟩)) hg hat)
    have b6 := mk_ (Kd.V_afterv (ok := (fun k_ => some k_ ≠ (.slice (some A) d.length D : Value).ownBlock ∧ k_ ≠ g)) (Kd.V_mono x.out (fun _ hk => ⟨⟨hk.1.2, hk.1.1⟩, hk.2⟩)) hg hat)
    have fQ := mk_ (below_weaken (below_at HB.out) HL.out hb)
    have fR := mk_ (KeepBut.trans (keep_at HK.out) (KeepBut.of_grown hg g) (Kd.R_base2 bP.out))
    have fS := mk_ (ho)
    clear l
    clear a
    clear u
    clear x
    have x := b6
    clear b6
    clear HB
    clear HK
    clear bP
    have l := fN
    have a := fO
    have u := fP
    have HB := fQ
    have HK := fR
    have bQ := fS
    clear fN fO fP fQ fR fS
    clear ho hb hg hat
    refine hK.out _ _ ⟨b7, b8⟩ (fun I => ?_)
    clear hK K
    refine nor_ (some 79) ?_
    clear b7 b8
    refine last_ (i := 11) (N := some 85) #[true, true, true, true, true, true, true, true, true, true, true, true, true, false, false, false, false, false, false] rfl rfl (by kernel_rfl) (by decide) (fun K hK => ?_)
    refine Kd.R_append_rows_step k82 w.heap.size (by rfl) (.tmp 79) (.tmp 84) 24 82 (.agg #[(.int .i64 0), (.int .i64 0)]) 16 rfl Tryd.underlying24 info82p rfl (by decide) (by omega) gy ap (rd_Lparts d (af)) _ _ _ (fun _ => True) (fun _ => False) rfl rfl ?aO ?aR (fun _ _ h => h) (fun _ h => h.elim) ?aF (Below.refl _ _) ?aS ?aL ?_
    (case aR => exact Kd.F_now (Kd.V_F x.out))
    (case aF => exact (fun _ _ => trivial))
    (case aO => exact (Kd.R_below bQ.out lt_))
    (case aS => exact (keep_size (w := w) (g := g) (row := none) (keep_at HK.out)))
    (case aL => have := fw.out; omega)
    intro eT i0 ho hb hg hat
    rw [← fx.out] at ho
    replace l := mk_ (Kd.N_afterv (ok := (fun k_ => k_ ≠ g)) (Kd.N_below l.out lt_) hg hat)
    replace a := mk_ (IsS99.grown (IsS99.below a.out lt_) hg (IsS99.own_ne a.out bQ.out (by decide)))
    replace HB := mk_ (below_weaken (below_at HB.out) HL.out hb)
    replace HK := mk_ (KeepBut.trans (keep_at HK.out) (KeepBut.of_grown hg g) (Kd.R_base2 bQ.out))
    have aA := mk_ (ho)
    (try clear u x bQ)
    clear ho hb hg hat
    refine hK.out _ _ ?_
    clear hK K
    refine nor_ (some 85) ?_
    refine last_ (i := 13) (N := some 87) #[true, true, true, true, true, true, true, true, true, true, true, true, true, true, false, false, false, false, false] rfl rfl (by kernel_rfl) (by decide) (fun K hK => ?_)
    refine goes_ Tryd.func52 (by kernel_rfl) rfl #[.pointer (some ⟨g, 0, none⟩), .int .i64 3] (by rfl) rfl rfl gl_ ?_
    (with_reducible refine (spec_l20Rd_pick.calls ad g q z 3 b4 dm y _ ?side1 ?side2 fM.out).mono ?_)
    (case side1 => exact IsS99.below a.out lt_)
    (case side2 => exact below_at HB.out)
    rintro e i1 ⟨rfl, hi, hb, hk⟩
    refine ⟨_, rfl, ?_⟩
    replace l := mk_ (Kd.N_mono (Kd.N_keep (Kd.N_mono (ok := fun k_ => (k_ ≠ g ∧ some k_ ≠ (eT : Value).ownBlock)) (Kd.N_below l.out lt_) (fun k_ hk_ => (⟨hk_, hk_.1⟩ : _ ∧ k_ ≠ g))) hk (fun _ h => h.2)) (fun _ h => h.1))
    replace aA := mk_ (Kd.R_mono (Kd.R_keep (IsS99.apart (show IsS99 y _ g q z from IsS99.below a.out lt_) (Kd.R_below aA.out lt_) (by decide)) hk (fun _ h => h.2)) (fun _ h => h.1))
    replace HK := kc_ HK hk
    replace HB := mk_ (hb)
    replace a := mk_ (hi)
    (try clear u x)
    (try clear hb)
    (try clear hb2)
    (try clear hk)
    (try clear hi)
    refine hK.out _ _ ?_
    clear hK K
    refine nor_ (some 87) ?_
    refine pur_ 14 (some 88) #[true, true, true, true, true, true, true, true, true, true, true, true, true, true, true, false, false, false, false] (by kernel_rfl) ?_
    refine pur_ 15 (some 89) #[true, true, true, true, true, true, true, true, true, true, true, true, true, true, true, true, false, false, false] (by kernel_rfl) ?_
    refine last_ (i := 16) (N := some 90) #[true, true, true, true, true, true, true, true, true, true, true, true, true, true, true, true, true, false, false] rfl rfl (by kernel_rfl) (by decide) (fun K hK => ?_)
    refine value_ (w1 := ?_) (v := ?_) (by rfl) rfl ?_ ?_
    rotate_left 2
    ·go_simp
     constructor
     ·rfl
     rfl
    refine hK.out _ _ ?_
    clear hK K
    refine nor_ (some 90) ?_
    refine last_ (i := 17) (N := some 91) #[true, true, true, true, true, true, true, true, true, true, true, true, true, true, true, true, true, true, false] rfl rfl (by kernel_rfl) (by decide) (fun K hK => ?_)
    refine Kd.R_append_step k82 w.heap.size (by rfl) (.tmp 85) (.tmp 90) 24 82 (.agg #[(.int .i64 0), (.int .i64 0)]) 16 rfl Tryd.underlying24 info82p rfl (by decide) (by omega) eT aq (⟨wrap64 (3 + b4), 0⟩ : S82) [.int .i64 (wrap64 (3 + b4)), .int .i64 0] (fun _ => True) (fun _ => False) rfl rfl ?aP (fun _ hk => hk.elim) ?aF ?aO (Below.refl _ _) ?aS ?aL ?_
    (case aP => exact k82_mkM _ _ _ (⟨wrap64 (3 + b4), 0⟩ : S82))
    (case aF => exact (fun _ _ => trivial))
    (case aO => exact (Kd.R_below aA.out lt_))
    (case aS => exact (keep_size (w := w) (g := g) (row := none) (keep_at HK.out)))
    (case aL => have := fy.out; omega)
    intro aK hc ho hb hg hat
    rw [← fz.out] at ho
    replace l := mk_ (Kd.N_afterv (ok := (fun k_ => k_ ≠ g)) (Kd.N_below l.out lt_) hg hat)
    replace a := mk_ (IsS99.grown (IsS99.below a.out lt_) hg (IsS99.own_ne a.out aA.out (by decide)))
    replace HB := mk_ (below_weaken (below_at HB.out) HL.out hb)
    replace HK := mk_ (KeepBut.trans (keep_at HK.out) (KeepBut.of_grown hg g) (Kd.R_base2 aA.out))
    have T := mk_ (ho)
    (try clear u x aA)
    clear ho hb hg hat
    refine hK.out _ _ ?_
    clear hK K
    refine nor_ (some 91) ?_
    refine pur_ 18 (some 11) #[true, true, true, true, true, true, true, true, true, true, true, true, true, true, true, true, true, true, true] (by kernel_rfl) ?_
    refine done_ (by kernel_rfl) ?_
    go_wp2_with (first | ((with_reducible refine gate_dst (N := 92) rfl ?_); refine Kd.N_lit (ownd 82 k82 w.heap.size) _ 24 ?hg (N' := 92) ?hd (xs := ([] : List (List (S82)))) (inner := []) (ok := (fun k_ => some k_ ≠ (.slice (some A) d.length D : Value).ownBlock ∧ some k_ ≠ (aK : Value).ownBlock ∧ k_ ≠ g)) (okp := (fun k_ => some k_ ≠ (.slice (some A) d.length D : Value).ownBlock ∧ some k_ ≠ (aK : Value).ownBlock ∧ k_ ≠ g)) ?hr ?hp (fun _ hk => hk) ((show ∀ k_, hc.heap.size ≤ k_ → (fun k_ => some k_ ≠ (.slice (some A) d.length D : Value).ownBlock ∧ some k_ ≠ (aK : Value).ownBlock ∧ k_ ≠ g) k_ from fun k_ hk => ⟨Kd.fresh' (Kd.N_lt (Kd.N_below l.out lt_)) k_ hk, Kd.fresh' (Kd.R_lt (Kd.R_below T.out lt_)) k_ hk, IsS99.fresh (IsS99.below a.out lt_) k_ hk⟩) _ (Nat.le_refl _)) (Below.refl _ _) (Nat.le_refl _) (by simp) ?_; (case hd => rfl); (case hg => rfl); (case hr => first | (go_simp; done) | (go_simp; rfl)); (case hp => exact (Reps.none _ _)); intro dn i2 bk hb ag E; clear ag E; (first | rw [← dT.out] at bk | (simp only [Int.reduceToNat] at bk; rw [← dT.out] at bk)); replace l := mk_ (Kd.N_elder' (Kd.N_below l.out lt_) (Kd.N_base bk) hb); replace T := mk_ (Kd.R_below (Kd.R_below T.out lt_) hb); have aW := mk_ (Kd.N_lower bk (keep_size (w := w) (g := g) (row := none) (keep_at HK.out))); replace a := mk_ (IsS99.below (IsS99.below a.out lt_) hb); replace HK := kb_ HK hb; replace HB := hs_ HB hb; (try clear u x); clear hb bk; have eU : (o : Int) ≤ ((d.length : Int) : Int) := oa_; obtain ⟨ix, dW, _, fI, _⟩ := info_parts info24p; have cp : d.length ≤ D := (Kd.N_reads' l.out).2.1; have eV : Kd.F (ownd 82 k82 w.heap.size) _ _ (some A) d.length d := (Kd.V_at (base := w.heap.size) (Kd.N_V l.out)).2.2; have eW := cut_to (P := Tryd.prog) 128 24 .i64 Tryd.underlying128 dW (some A) d.length D o (oa_) eU cp; have dp := Kd.F_take (m := (o : Int).toNat) eV (by omega); have dq : G.length = (o : Int).toNat := (by rw [dU.out, List.length_take]; omega); rw [← dU.out] at dp; rw [← dq] at eW; have bR := mk_ (show Kd.V (ownd 82 k82 w.heap.size) 24 _ w.heap.size _ (.slice (some A) G.length D) G from Kd.V_mk (by omega) dp); have hR := mk_ (show G.length ≤ D from by omega); clear dp eV cp dW fI; have iy := mk_ dq; clear dq; replace eU := eq_true eU) | ((with_reducible refine gate_builtin (b := .append) (xs := #[.tmp 92, .tmp 95]) rfl ?_); at_builtin; refine Kd.N_append_rows (ownd 82 k82 w.heap.size) w.heap.size rfl (.tmp 92) (.tmp 95) 128 24 (.slice none 0 0) 24 rfl Tryd.underlying128 info24p rfl Nat.one_pos (by omega) dn ae G _ _ _ (fun k_ => some k_ ≠ (aK : Value).ownBlock ∧ k_ ≠ g) (fun k_ => ((fun k_ => some k_ ≠ (aK : Value).ownBlock ∧ k_ ≠ g)) k_ ∧ some k_ ≠ (dn : Value).ownBlock) rfl rfl ?aO ?aR (fun _ hk => hk) ?aF (Below.refl _ _) ?aS ?aL ?_; (case aR => exact (by skip; exact Kd.V_F (Kd.V_mono (ok' := (fun k_ => ((fun k_ => some k_ ≠ (aK : Value).ownBlock ∧ k_ ≠ g)) k_ ∧ some k_ ≠ (dn : Value).ownBlock)) (bR.out) (fun k_ hk => ⟨⟨hk.1.2, hk.1.1⟩, hk.2⟩)))); (case aF => exact (fun k_ hk => ⟨Kd.fresh' (Kd.R_lt (Kd.R_below T.out lt_)) k_ hk, IsS99.fresh (IsS99.below a.out lt_) k_ hk⟩)); (case aO => exact (Kd.N_below (Kd.N_mono aW.out (fun _ hk => ⟨hk.2.1, hk.2.2⟩)) lt_)); (case aS => exact (keep_size (w := w) (g := g) (row := none) (keep_at HK.out))); (case aL => have := fA.out; omega); intro dr i3 ho hb hg hat; rw [← fB.out] at ho; replace l := mk_ (Kd.N_afterv (ok := (fun k_ => some k_ ≠ (aK : Value).ownBlock ∧ k_ ≠ g)) (Kd.N_below (Kd.N_mono l.out (fun _ hk => ⟨⟨hk.1.2, hk.1.1⟩, hk.2⟩)) lt_) hg hat); replace a := mk_ (IsS99.grown (IsS99.below a.out lt_) hg (IsS99.own_neN a.out aW.out (by decide))); replace T := mk_ (Kd.R_over' (Kd.R_below T.out lt_) (Kd.N_typed (Kd.N_below aW.out lt_)) (by decide) hg); replace HB := mk_ (below_weaken (below_at HB.out) HL.out hb); replace HK := mk_ (KeepBut.trans (keep_at HK.out) (KeepBut.of_grown hg g) (Kd.N_base2 aW.out)); have aX := mk_ (ho); (try clear u x bR aW); clear ho hb hg hat; obtain ⟨eX, eY, gz⟩ := Kd.R_slice T.out; subst gz) | ((with_reducible refine gate_builtin (b := .append) (xs := #[.tmp 97, .tmp 99]) rfl ?_); at_builtin; refine Kd.N_append (ownd 82 k82 w.heap.size) w.heap.size rfl (.tmp 97) (.tmp 99) 128 24 (.slice none 0 0) 24 rfl Tryd.underlying128 info24p rfl Nat.one_pos (by omega) dr Y b5 [.slice eX b5.length eY] (fun k_ => k_ ≠ g) (fun k_ => ((fun k_ => k_ ≠ g)) k_ ∧ some k_ ≠ (dr : Value).ownBlock) rfl rfl ?aP (fun _ hk => hk) ?aF ?aO (Below.refl _ _) ?aS ?aL ?_; (case aP => exact (FK_own_mk (Kd.R_mono (ok' := (fun k_ => ((fun k_ => k_ ≠ g)) k_ ∧ some k_ ≠ (dr : Value).ownBlock)) (IsS99.apart a.out (Kd.R_apart' (T.out) (Kd.N_typed aX.out) (by decide)) (by decide)) (fun k_ hk => ⟨hk.2, hk.1.2⟩)))); (case aF => exact (fun k_ hk => IsS99.fresh (IsS99.below a.out lt_) k_ hk)); (case aO => exact (Kd.N_below (Kd.N_mono aX.out (fun _ hk => hk.2)) lt_)); (case aS => exact (keep_size (w := w) (g := g) (row := none) (keep_at HK.out))); (case aL => have := fC.out; omega); intro du i4 ho hb hg hat; rw [← fD.out] at ho; replace l := mk_ (Kd.N_afterv (ok := (fun k_ => some k_ ≠ (.slice eX b5.length eY : Value).ownBlock ∧ k_ ≠ g)) (Kd.N_below l.out lt_) hg hat); replace a := mk_ (IsS99.grown (IsS99.below a.out lt_) hg (IsS99.own_neN a.out aX.out (by decide))); replace HB := mk_ (below_weaken (below_at HB.out) HL.out hb); replace HK := mk_ (KeepBut.trans (keep_at HK.out) (KeepBut.of_grown hg g) (Kd.N_base2 aX.out)); have bS := mk_ (ho); (try clear u x bR aX T); clear ho hb hg hat; have eZ : ((aa) : Int) ≤ ((d.length : Int) : Int) := oa_; obtain ⟨iz, dX, _, dY, _⟩ := info_parts info24p; have aB : d.length ≤ D := (Kd.N_reads' l.out).2.1; have e0 : Kd.F (ownd 82 k82 w.heap.size) _ _ (some A) d.length d := (Kd.V_at (base := w.heap.size) (Kd.N_V l.out)).2.2; have gA : (0 : Int) ≤ ((aa) : Int) := oa_; have e1 := cut_from (P := Tryd.prog) 128 24 .i64 Tryd.underlying128 dX 1 dY (some A) d.length D (aa) gA eZ; have b9 := Kd.F_cut (m := ((aa) : Int).toNat) (c := D) e0 (by omega) aB; obtain ⟨fT, cO⟩ : ∃ A1, A1 = (if D = ((aa) : Int).toNat then (some A) else ((some A) : Option Addr).map (·.add (((aa) : Int).toNat * 1))) := ⟨_, rfl⟩; obtain ⟨fU, cP⟩ : ∃ c1, c1 = D - ((aa) : Int).toNat := ⟨_, rfl⟩; have ca : B.length = d.length - ((aa) : Int).toNat := (by rw [dV.out, List.length_drop] <;> omega); rw [show (d).drop ((aa) : Int).toNat = B from dV.out.symm] at b9; replace b9 : Kd.F (ownd 82 k82 w.heap.size) _ _ fT B.length B := (by rw [cO]; exact b9); rw [← ca, ← cO, ← cP] at e1; have dZ := mk_ (show Kd.V (ownd 82 k82 w.heap.size) 24 _ w.heap.size _ (.slice fT B.length fU) B from Kd.V_mk (by rw [ca, cP]; exact Nat.sub_le_sub_right aB _) b9); have hS := mk_ (show B.length ≤ fU from by rw [ca, cP]; exact Nat.sub_le_sub_right aB _); clear b9 e0 aB dX dY cP; have iC := mk_ ca; have iD := mk_ cO; clear ca cO; replace eZ := eq_true eZ) | ((with_reducible refine gate_builtin (b := .append) (xs := #[.tmp 101, .tmp 105]) rfl ?_); at_builtin; refine Kd.N_append_rows (ownd 82 k82 w.heap.size) w.heap.size rfl (.tmp 101) (.tmp 105) 128 24 (.slice none 0 0) 24 rfl Tryd.underlying128 info24p rfl Nat.one_pos (by omega) du Z B _ _ _ (fun k_ => k_ ≠ g) (fun k_ => ((fun k_ => k_ ≠ g)) k_ ∧ some k_ ≠ (du : Value).ownBlock) rfl rfl ?aO ?aR (fun _ hk => hk) ?aF (Below.refl _ _) ?aS ?aL ?_; (case aR => exact (by skip; exact Kd.V_F (Kd.V_mono (ok' := (fun k_ => ((fun k_ => k_ ≠ g)) k_ ∧ some k_ ≠ (du : Value).ownBlock)) (dZ.out) (fun k_ hk => ⟨hk.1.2, hk.2⟩)))); (case aF => exact (fun k_ hk => IsS99.fresh (IsS99.below a.out lt_) k_ hk)); (case aO => exact (Kd.N_below bS.out lt_)); (case aS => exact (keep_size (w := w) (g := g) (row := none) (keep_at HK.out))); (case aL => have := fE.out; omega); intro iE i5 ho hb hg hat; rw [← fG.out] at ho; replace a := mk_ (IsS99.grown (IsS99.below a.out lt_) hg (IsS99.own_neN a.out bS.out (by decide))); replace HB := mk_ (below_weaken (below_at HB.out) HL.out hb); replace HK := mk_ (KeepBut.trans (keep_at HK.out) (KeepBut.of_grown hg g) (Kd.N_base2 bS.out)); have fJ := mk_ (ho); (try clear l u x bR dZ bS); clear ho hb hg hat))
    (try subst aV)
    (try subst bH)
    go_roundg ad
    case measure => have := ak.out; have := bn.out; have := cC.out; omega
    case rel => exact ⟨(gs), (W), (dm), sm_, H', ⟨by have := ak.out; have := bn.out; have := cC.out; omega⟩, ⟨Kd.N_below fJ.out lt_⟩, ⟨IsS99.below a.out lt_⟩, ⟨keep_at HK.out⟩, ⟨below_at HB.out⟩⟩
end Go.Proofs.YtcaogllnbpmcgaaDoor.P

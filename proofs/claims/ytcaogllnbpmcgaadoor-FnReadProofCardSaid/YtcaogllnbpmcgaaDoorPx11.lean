/- Go's functions come to just the answers of the Lean functions told here. -/
import Derived.Test.YtcaogllnbpmcgaaDoorMAllFnReadProof2
import Derived.Laws.EntriesVeiled
set_option maxHeartbeats 8000000
set_option maxRecDepth 100000
namespace Go.Proofs.YtcaogllnbpmcgaaDoor.P
open Go.RowKit Go.Proofs.YtcaogllnbpmcgaaDoorW.PrintWords Go.Proofs.YtcaogllnbpmcgaaDoorW.PrintLast Go.Proofs.YtcaogllnbpmcgaaDoorW.PrintMore
attribute [local go_sem] max2_int min2_int max_two min_two max_three min_three max_four min_four
set_option linter.unusedVariables false
set_option linter.unusedSimpArgs false
-- HAND rounds=0 making=1
-- IMPORTS: Derived.Test.YtcaogllnbpmcgaaDoorMPrf Derived.Laws.EntriesVeiled
noncomputable def impl_ProofOk.f (a0 : Int) (l1 : List (S79)) (l2 : List (S82)) (a3_0 : Int) (l3_1 : List (S68)) : Option Bool := @ite _ (M.Prf64 l1 a3_0 l3_1) (Classical.propDecidable _) (some (@decide (M.PrfOk a0 l1 l2 a3_0 l3_1) (Classical.propDecidable _))) none
theorem impl_ProofOk.calls (X : Int) (t : Option Addr) (u : Nat) (l1 : List (S79)) (B : Option Addr) (c2 : Nat) (j : List (S82)) (d : Int) (o : Option Addr) (p : Nat) (a : List (S68)) (r : Bool) (w : World) (av : Kd.C k79 w t l1.length l1) (D : l1.length ≤ u) (aw : Kd.C k82 w B j.length j) (I : j.length ≤ c2) (aj : Kd.C k68 w o a.length a) (ar : a.length ≤ p) (h : impl_ProofOk.f X l1 j d a = some r) :
  Calls Tryd.prog 10 #[.int .i64 X, .slice t l1.length u, .slice B j.length c2, .agg #[.int .i64 d, .slice o a.length p]] w fun e w' => e = .returned (.bool r) ∧ Below w.heap.size w w' := by
 unfold impl_ProofOk.f at h
 by_cases q : M.Prf64 l1 d a
 case neg => rw [if_neg q] at h; cases h
 rw [if_pos q] at h
 have hr := Option.some.inj h
 have hdec : r = true ↔ M.PrfOk X l1 j d a := by rw [← hr]; exact @decide_eq_true_iff _ (Classical.propDecidable _)
 clear h hr
 have E := Lib.hid av
 have J := Lib.hid aw
 have aB := Lib.hid aj
 clear av aw aj
 by_cases hS : M.StoryP X l1
 case neg =>
  have hrf : r = false := by
   cases r with
   | false => rfl
   | true => exact absurd (hdec.1 rfl).1 hS
  subst hrf
  obtain ⟨K, hK⟩ := (M.impl_storyOk X l1 q.1).ev (b := false) ⟨fun h => (by cases h), fun h => absurd h hS⟩
  have HK := Lib.hid (hK K (Nat.le_refl _))
  clear hK hdec q
  go_enter Tryd.func10, Tryd.ntmps10
  go_wp2_with (go_at_call 34; (refine (impl_StoryOk.calls K X t u l1 false _ (Kd.C_below E.out (by repeat (first | exact Below.refl _ _ | apply below_alloc))) D HK.out).mono ?_); rintro e s ⟨rfl, c⟩)
  go_ret
  exact ⟨rfl, below_step (by repeat (first | exact Below.refl _ _ | apply below_alloc)) c⟩
 have hn := hS.2.1
 obtain ⟨n, rfl⟩ : ∃ m : Nat, X = (m : Int) := ⟨X.toNat, by omega⟩
 obtain ⟨K, hK⟩ := (M.impl_storyOk (n : Int) l1 q.1).ev (b := true) ⟨fun _ => hS, fun _ => rfl⟩
 have HK := Lib.hid (hK K (Nat.le_refl _))
 clear hK
 have P0 := Lib.hid (show (M.prfW n l1.length t u j.length B c2 d a.length o p w).heap[w.heap.size]? = _ from blk_alloc (blk_alloc (blk_alloc (M.new_at_ _ _ _ rfl) _) _) _)
 have P2 := Lib.hid (show (M.prfW n l1.length t u j.length B c2 d a.length o p w).heap[w.heap.size + 1 + 1]? = _ from blk_alloc (M.new_at_ _ _ _ (by simp only [M.alloc_size_])) _)
 have P3 := Lib.hid (show (M.prfW n l1.length t u j.length B c2 d a.length o p w).heap[w.heap.size + 1 + 1 + 1]? = _ from M.new_at_ _ _ _ (by simp only [M.alloc_size_]))
 by_cases hT : M.TermP n j
 case neg =>
  have hrf : r = false := by
   cases r with
   | false => rfl
   | true => exact absurd (hdec.1 rfl).2.1 hT
  subst hrf
  obtain ⟨Y, Z⟩ := (M.impl_termOk n j).ev (b := false) ⟨fun h => (by cases h), fun h => absurd h hT⟩
  have L := Lib.hid (Z Y (Nat.le_refl _))
  clear Z hdec q
  go_enter Tryd.func10, Tryd.ntmps10
  go_wp2_with (first
   | (go_at_call 34; (refine (impl_StoryOk.calls K n t u l1 true _ (Kd.C_below E.out (by repeat (first | exact Below.refl _ _ | apply below_alloc))) D HK.out).mono ?_); rintro e s ⟨rfl, c⟩; have k := Lib.hid (below_step (show Below w.heap.size w _ by repeat (first | exact Below.refl _ _ | apply below_alloc)) c); have z0 := cell_of_one (blk_below P0.out c); have z2 := cell_of_one (blk_below P2.out c); clear c)
   | (go_at_call 35; (refine (impl_TermOk.calls Y n B c2 j false _ (Kd.C_below J.out k.out) I L.out).mono ?_); rintro e W2 ⟨rfl, g⟩; have G := Lib.hid (below_step k.out g)))
  go_ret
  exact ⟨rfl, G.out⟩
 obtain ⟨Y, Z⟩ := (M.impl_termOk n j).ev (b := true) ⟨fun _ => hT, fun _ => rfl⟩
 have L := Lib.hid (Z Y (Nat.le_refl _))
 clear Z
 by_cases hl : a.length ≤ 15
 case neg =>
  have hrf : r = false := by
   cases r with
   | false => rfl
   | true => exact absurd (hdec.1 rfl).2.2.1 hl
  subst hrf
  have d1 : decide (15 < (a.length : Int)) = true := decide_eq_true (by omega)
  clear hdec q
  go_enter Tryd.func10, Tryd.ntmps10
  go_wp2_with (first
   | (go_at_call 34; (refine (impl_StoryOk.calls K n t u l1 true _ (Kd.C_below E.out (by repeat (first | exact Below.refl _ _ | apply below_alloc))) D HK.out).mono ?_); rintro e s ⟨rfl, c⟩; have k := Lib.hid (below_step (show Below w.heap.size w _ by repeat (first | exact Below.refl _ _ | apply below_alloc)) c); have z0 := cell_of_one (blk_below P0.out c); have z2 := cell_of_one (blk_below P2.out c); have y := Lib.hid (blk_below P3.out c); clear c)
   | (go_at_call 35; (refine (impl_TermOk.calls Y n B c2 j true _ (Kd.C_below J.out k.out) I L.out).mono ?_); rintro e W2 ⟨rfl, g⟩; have G := Lib.hid (below_step k.out g); have l := blk_below y.out g; have y1 := (blk_cell l 1).trans rfl; clear g l))
  go_ret
  exact ⟨rfl, G.out⟩
 -- FURTHER
 have d1 : decide (15 < (a.length : Int)) = false := decide_eq_false (by omega)
 by_cases hf : 0 < a.length ∧ d ≠ 0
 ·have hrf : r = false := by
   cases r with
   | false => rfl
   | true => exact absurd ((hdec.1 rfl).2.2.2.1 hf.1) hf.2
  subst hrf
  have d2 : decide (0 < (a.length : Int)) = true := decide_eq_true (by omega)
  have d3 : (d != 0) = true := bne_iff_ne.mpr hf.2
  clear hdec q
  go_enter Tryd.func10, Tryd.ntmps10
  go_wp2_with (first
   | (go_at_call 34; (refine (impl_StoryOk.calls K n t u l1 true _ (Kd.C_below E.out (by repeat (first | exact Below.refl _ _ | apply below_alloc))) D HK.out).mono ?_); rintro e s ⟨rfl, c⟩; have k := Lib.hid (below_step (show Below w.heap.size w _ by repeat (first | exact Below.refl _ _ | apply below_alloc)) c); have z0 := cell_of_one (blk_below P0.out c); have z2 := cell_of_one (blk_below P2.out c); have y := Lib.hid (blk_below P3.out c); have ab := Lib.hid c; clear c)
   | (go_at_call 35; (refine (impl_TermOk.calls Y n B c2 j true _ (Kd.C_below J.out k.out) I L.out).mono ?_); rintro e W2 ⟨rfl, g⟩; have G := Lib.hid (below_step k.out g); have l := blk_below y.out g; have y1 := (blk_cell l 1).trans rfl; have y0 := (blk_cell l 0).trans rfl; have O := Lib.hid (below_step ab.out g); clear g l))
  go_ret
  exact ⟨rfl, G.out⟩
 have TT : ∀ s, Below (M.prfW n l1.length t u j.length B c2 d a.length o p w).heap.size (M.prfW n l1.length t u j.length B c2 d a.length o p w) s →
   Calls Tryd.prog 36 #[.int .i64 d, .int .i64 (-1), .int .i64 0, .int .i64 0, M.ptr w.heap.size, M.ptr (w.heap.size + 1), M.ptr (w.heap.size + 1 + 1), M.ptr (w.heap.size + 1 + 1 + 1), M.ptr (s.heap.size + 1), M.ptr (s.heap.size + 1 + 1)] (M.prfW2 a.length w.heap.size (w.heap.size + 1) (w.heap.size + 1 + 1) (w.heap.size + 1 + 1 + 1) s)
    (M.Chkd n l1 t u j B c2 d a o p w.heap.size (w.heap.size + 1) (w.heap.size + 1 + 1) (w.heap.size + 1 + 1 + 1) (s.heap.size + 1) (s.heap.size + 1 + 1) s.heap.size w (M.prfW2 a.length w.heap.size (w.heap.size + 1) (w.heap.size + 1 + 1) (w.heap.size + 1 + 1 + 1) s) (Q.chkI a n (M.clQ n l1 j) (a.length + 2) d (-1) 0 0 (List.replicate a.length false))) := fun s hb =>
  M.chk_calls E.out D J.out I aB.out ar hS hT q.2.2 (a.length + 2) d (-1) 0 0 (List.replicate a.length false) _ (by omega) (by omega) (by omega) q.2.1 (fun _ _ => by omega) (M.CE.start hl hb)
 obtain ⟨⟨v, cm⟩, hvc⟩ : ∃ x, Q.chkI a n (M.clQ n l1 j) (a.length + 2) d (-1) 0 0 (List.replicate a.length false) = x := ⟨_, rfl⟩
 have hfin : (v = false → r = false) ∧ (v = true → ∀ cb : Bool, (cb = true ↔ false ∈ cm) → r = !cb) := by
  have hok : r = true ↔ v = true ∧ ∀ b ∈ cm, b = true := by
   rw [hdec]
   unfold M.PrfOk Q.okI
   rw [Int.toNat_natCast, hvc]
   constructor
   ·exact fun h => h.2.2.2.2
   ·refine fun h => ⟨hS, hT, hl, fun h0 => ?_, h⟩
    exact Classical.byContradiction fun h1 => hf ⟨h0, h1⟩
  constructor
  ·intro hv
   cases r with
   | false => rfl
   | true => rw [(hok.1 rfl).1] at hv; cases hv
  ·intro hv cb hcb
   cases cb with
   | true =>
    cases r with
    | false => rfl
    | true => have := (hok.1 rfl).2 false (hcb.1 rfl); cases this
   | false => exact hok.2 ⟨hv, fun b hb => by
     cases b with
     | true => rfl
     | false => have := hcb.2 hb; cases this⟩
 simp only [hvc] at TT
 obtain ⟨i0, hi, ax, ao, ay⟩ := info_parts (show (Tryd.prog.info? 4).map (fun i => (i.zero, i.size, i.bytes)) = some (some (.bool false), 1, 1) by kernel_rfl)
 have hmk : ∀ W : World, (Instr.makeSlice 63 (.int .i64 (a.length : Int)) (.int .i64 (a.length : Int))).run Tryd.prog W = .ok (.slice (some ⟨W.heap.size, 0, none⟩) a.length a.length) (W.alloc (.cells (madeCells #[.bool false] a.length) 4)) := fun W => by
  have := run_makeSlice (P := Tryd.prog) (w := W) 63 4 i0 (.bool false) Tryd.underlying63 hi ax .i64 .i64 (a.length : Int) (a.length : Int) (by omega) (by omega) (by rw [ao, Int.toNat_natCast]; omega) (by rw [ay]; omega) (by omega)
  rw [ao, Int.toNat_natCast, Nat.mul_one] at this
  exact this
 clear hi ax ao ay i0
 clear hvc hdec q
 by_cases hz : 0 < a.length
 ·have az : d = 0 := Classical.byContradiction fun h1 => hf ⟨hz, h1⟩
  clear hf
  have d2 : decide (0 < (a.length : Int)) = true := decide_eq_true (by omega)
  have d3 : (d != 0) = false := by rw [az]; rfl
  clear az
  have aK : decide (0 < a.length) = true := decide_eq_true hz
  go_enter Tryd.func10, Tryd.ntmps10
  go_upto_region 6 with (first
   | (go_at_call 34; (refine (impl_StoryOk.calls K n t u l1 true _ (Kd.C_below E.out (by repeat (first | exact Below.refl _ _ | apply below_alloc))) D HK.out).mono ?_); rintro e s ⟨rfl, c⟩; have k := Lib.hid (below_step (show Below w.heap.size w _ by repeat (first | exact Below.refl _ _ | apply below_alloc)) c); have z0 := cell_of_one (blk_below P0.out c); have z2 := cell_of_one (blk_below P2.out c); have y := Lib.hid (blk_below P3.out c); have ab := Lib.hid c; clear c)
   | (go_at_call 35; (refine (impl_TermOk.calls Y n B c2 j true _ (Kd.C_below J.out k.out) I L.out).mono ?_); rintro e W2 ⟨rfl, g⟩; have G := Lib.hid (below_step k.out g); have l := blk_below y.out g; have y1 := (blk_cell l 1).trans rfl; have y0 := (blk_cell l 0).trans rfl; have O := Lib.hid (below_step ab.out g); clear g l))
  have T := Lib.hid (TT W2 O.out)
  obtain ⟨W3, z⟩ : ∃ W3, M.prfW2 a.length w.heap.size (w.heap.size + 1) (w.heap.size + 1 + 1) (w.heap.size + 1 + 1 + 1) W2 = W3 := ⟨_, rfl⟩
  have U := M.CE.start hl O.out
  rw [z] at T U
  have q5 := cell_of_one U.hk
  have q0 : W3.cell? ⟨w.heap.size + 1 + 1 + 1, 0, none⟩ = some (.int .i64 d) := (blk_cell U.hq 0).trans rfl
  unfold M.prfW2 at z
  rw [z]
  clear z U P0 P2 P3 y z0 z2 y0 y1
  cases v with
  | false =>
   have HFF := Lib.hid (hfin.1 rfl)
   clear hfin
   go_wp2_with (go_at_call 36; (refine T.out.mono ?_); rintro e W6 ⟨rfl, E6, K6⟩)
   go_ret
   obtain rfl := HFF.out
   exact ⟨rfl, E6.hb⟩
  | true =>
   have HFF := Lib.hid (hfin.2 rfl)
   clear hfin
   go_wp2_with (first
    | (go_at_call 36; (refine T.out.mono ?_); rintro e W6 ⟨rfl, A, K6⟩; have q4 := cell_of_one A.hc; obtain ⟨cb, hcb, ac⟩ := A.contains hl; have ai := Lib.hid ac; have E6 := Lib.hid A; have hcbr := Lib.hid (HFF.out cb hcb); clear A K6 ac hcb)
    | (go_at_call 38; (refine ai.out.mono ?_); rintro e W7 ⟨rfl, ad⟩; have aq := Lib.hid ad; clear ad))
   go_ret
   obtain rfl := hcbr.out
   exact ⟨rfl, below_step E6.out.hb aq.out⟩
 ·clear hf
  have d2 : decide (0 < (a.length : Int)) = false := decide_eq_false (by omega)
  go_enter Tryd.func10, Tryd.ntmps10
  go_upto_region 6 with (first
   | (go_at_call 34; (refine (impl_StoryOk.calls K n t u l1 true _ (Kd.C_below E.out (by repeat (first | exact Below.refl _ _ | apply below_alloc))) D HK.out).mono ?_); rintro e s ⟨rfl, c⟩; have k := Lib.hid (below_step (show Below w.heap.size w _ by repeat (first | exact Below.refl _ _ | apply below_alloc)) c); have z0 := cell_of_one (blk_below P0.out c); have z2 := cell_of_one (blk_below P2.out c); have y := Lib.hid (blk_below P3.out c); have ab := Lib.hid c; clear c)
   | (go_at_call 35; (refine (impl_TermOk.calls Y n B c2 j true _ (Kd.C_below J.out k.out) I L.out).mono ?_); rintro e W2 ⟨rfl, g⟩; have G := Lib.hid (below_step k.out g); have l := blk_below y.out g; have y1 := (blk_cell l 1).trans rfl; have y0 := (blk_cell l 0).trans rfl; have O := Lib.hid (below_step ab.out g); clear g l))
  have T := Lib.hid (TT W2 O.out)
  obtain ⟨W3, z⟩ : ∃ W3, M.prfW2 a.length w.heap.size (w.heap.size + 1) (w.heap.size + 1 + 1) (w.heap.size + 1 + 1 + 1) W2 = W3 := ⟨_, rfl⟩
  have U := M.CE.start hl O.out
  rw [z] at T U
  have q5 := cell_of_one U.hk
  have q0 : W3.cell? ⟨w.heap.size + 1 + 1 + 1, 0, none⟩ = some (.int .i64 d) := (blk_cell U.hq 0).trans rfl
  unfold M.prfW2 at z
  rw [z]
  clear z U P0 P2 P3 y z0 z2 y0 y1
  cases v with
  | false =>
   have HFF := Lib.hid (hfin.1 rfl)
   clear hfin
   go_wp2_with (go_at_call 36; (refine T.out.mono ?_); rintro e W6 ⟨rfl, E6, K6⟩)
   go_ret
   obtain rfl := HFF.out
   exact ⟨rfl, E6.hb⟩
  | true =>
   have HFF := Lib.hid (hfin.2 rfl)
   clear hfin
   go_wp2_with (first
    | (go_at_call 36; (refine T.out.mono ?_); rintro e W6 ⟨rfl, A, K6⟩; have q4 := cell_of_one A.hc; obtain ⟨cb, hcb, ac⟩ := A.contains hl; have ai := Lib.hid ac; have E6 := Lib.hid A; have hcbr := Lib.hid (HFF.out cb hcb); clear A K6 ac hcb)
    | (go_at_call 38; (refine ai.out.mono ?_); rintro e W7 ⟨rfl, ad⟩; have aq := Lib.hid ad; clear ad))
   go_ret
   obtain rfl := hcbr.out
   exact ⟨rfl, below_step E6.out.hb aq.out⟩
end Go.Proofs.YtcaogllnbpmcgaaDoor.P

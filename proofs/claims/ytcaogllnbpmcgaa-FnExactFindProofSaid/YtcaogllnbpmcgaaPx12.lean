/- Go's functions come to just the answers of the Lean functions told here. -/
import Derived.Test.YtcaogllnbpmcgaaMAllFnExactFindProof2
import Derived.Laws.EntriesVeiled
namespace Go.Proofs.Ytcaogllnbpmcgaa.P
open Go.RowKit Go.Proofs.YtcaogllnbpmcgaaW.PrintWords Go.Proofs.YtcaogllnbpmcgaaW.PrintLast Go.Proofs.YtcaogllnbpmcgaaW.PrintMore
attribute [local go_sem] max2_int min2_int max_two min_two max_three min_three max_four min_four
set_option linter.unusedVariables false
set_option linter.unusedSimpArgs false

-- HAND rounds=0 making=1
-- IMPORTS: Derived.Test.YtcaogllnbpmcgaaMFindW Derived.Laws.EntriesVeiled
/-! ### impl_FindProof: function 29 -/
noncomputable def impl_FindProof.f (a0 : Int) (l1 : List (S38)) (l2 : List (S47)) : Option (Int × (List (S93)) × Bool) := if l1.length < 4611686018427387904 then some (M.findF a0 l1 l2) else none
set_option maxHeartbeats 8000000 in
set_option maxRecDepth 100000 in
theorem impl_FindProof.calls (a0 : Int) (A1 : Option Addr) (c1 : Nat) (l1 : List (S38)) (A2 : Option Addr) (c2 : Nat) (l2 : List (S47)) (r1 : Int) (r2 : List (S93)) (r3 : Bool) (w : World) (hr1 : Kd.C k38 w A1 l1.length l1) (hc1 : l1.length ≤ c1) (hr2 : Kd.C k47 w A2 l2.length l2) (hc2 : l2.length ≤ c2) (h : impl_FindProof.f a0 l1 l2 = some (r1, r2, r3)) :
  Calls Try.prog 29 #[.int .i64 a0, .slice A1 l1.length c1, .slice A2 l2.length c2] w fun e w' => ∃ v1_ : Value, e = .returned (.tuple #[.agg #[.int .i64 r1, v1_], .bool r3]) ∧ Kd.R k93 93 w' w.heap.size (fun _ => True) v1_ r2 ∧ Below w.heap.size w w' := by
 unfold impl_FindProof.f at h
 by_cases h64 : l1.length < 4611686018427387904
 case neg => rw [if_neg h64] at h; cases h
 rw [if_pos h64] at h
 have hr := Option.some.inj h
 clear h
 have HC1 := Lib.hid hr1
 have HC2 := Lib.hid hr2
 clear hr1 hr2
 have HXB := Lib.hid (show w.heap.size ≤ w.heap.size + 1 + 1 + 1 by omega)
 have info51 : (Try.prog.info? 51).map (fun i => (i.zero, i.size, i.bytes)) = some (some (.agg #[.int .i64 0, .slice none 0 0]), 2, 32) := by kernel_rfl
 have hu51 := Try.underlying51
 have zero : ¬ (M.StoryP a0 l1 ∧ M.TermP a0 l2) → r1 = 0 ∧ r2 = [] ∧ r3 = false := fun hn => by
  unfold M.findF at hr
  rw [if_neg hn] at hr
  injection hr with e1 e2
  injection e2 with e2 e3
  exact ⟨e1.symm, e2.symm, e3.symm⟩
 by_cases hS : M.StoryP a0 l1
 case neg =>
  obtain ⟨rfl, rfl, rfl⟩ := zero (fun h => hS h.1)
  obtain ⟨K, hK⟩ := (M.impl_storyOk a0 l1 h64).ev (b := false) ⟨fun h => (by cases h), fun h => absurd h hS⟩
  have HK := Lib.hid (hK K (Nat.le_refl _))
  clear hK hr h64 zero
  have P3 := Lib.hid (show (M.fndW_ a0 l1.length A1 c1 l2.length A2 c2 w).heap[(w.heap.size + 1 + 1 + 1)]? = _ from M.new_at_ _ _ _ (by simp only [M.alloc_size_]))
  go_enter Try.func29, Try.ntmps29
  go_wp2_with (go_at_call 20; (refine (impl_StoryOk.calls K a0 A1 c1 l1 false _ (Kd.C_below HC1.out (by repeat (first | exact Below.refl _ _ | apply below_alloc))) hc1 HK.out).mono ?_); rintro e W1 ⟨rfl, hb1⟩; have HB1 := Lib.hid (below_step (show Below w.heap.size w _ by repeat (first | exact Below.refl _ _ | apply below_alloc)) hb1); have P31 := Lib.hid (blk_below P3.out hb1); clear hb1; have hcx0 := (blk_cell P31.out 0).trans rfl; have hcx1 := (blk_cell P31.out 1).trans rfl; have hfx0 := blk_frozen P31.out 0; have hfx1 := blk_frozen P31.out 1)
  refine bodyPost_ret (results_ct rfl _ _ (w.heap.size + 1 + 1 + 1) 51 #[.int .i64 0, .slice none 0 0] (0, 0) _ rfl (blk_put (cs := #[.int .i64 0, .slice none 0 0]) (blk_put (cs := #[.int .i64 0, .slice none 0 0]) P31.out 0 _ rfl) 1 _ rfl) Try.underlying51 rfl (by kernel_rfl)) rfl ?_
  exact ⟨_, rfl, Kd.R_nil _ _ _ _ _, below_set (below_set HB1.out HXB.out) HXB.out⟩
 have hn := hS.2.1
 obtain ⟨n, rfl⟩ : ∃ m : Nat, a0 = (m : Int) := ⟨a0.toNat, by omega⟩
 obtain ⟨K, hK⟩ := (M.impl_storyOk (n : Int) l1 h64).ev (b := true) ⟨fun _ => hS, fun _ => rfl⟩
 have HK := Lib.hid (hK K (Nat.le_refl _))
 clear hK
 have P0 := Lib.hid (show (M.fndW n l1.length A1 c1 l2.length A2 c2 w).heap[w.heap.size]? = _ from blk_alloc (blk_alloc (blk_alloc (M.new_at_ _ _ _ rfl) _) _) _)
 have P2 := Lib.hid (show (M.fndW n l1.length A1 c1 l2.length A2 c2 w).heap[w.heap.size + 1 + 1]? = _ from blk_alloc (M.new_at_ _ _ _ (by simp only [M.alloc_size_])) _)
 have P3 := Lib.hid (show (M.fndW n l1.length A1 c1 l2.length A2 c2 w).heap[w.heap.size + 1 + 1 + 1]? = _ from M.new_at_ _ _ _ (by simp only [M.alloc_size_]))
 by_cases hT : M.TermP n l2
 case neg =>
  obtain ⟨rfl, rfl, rfl⟩ := zero (fun h => hT h.2)
  obtain ⟨K2, hK2⟩ := (M.impl_termOk n l2).ev (b := false) ⟨fun h => (by cases h), fun h => absurd h hT⟩
  have HK2 := Lib.hid (hK2 K2 (Nat.le_refl _))
  clear hK2 hr h64 zero
  go_enter Try.func29, Try.ntmps29
  go_wp2_with (first
   | (go_at_call 20; (refine (impl_StoryOk.calls K n A1 c1 l1 true _ (Kd.C_below HC1.out (by repeat (first | exact Below.refl _ _ | apply below_alloc))) hc1 HK.out).mono ?_); rintro e W1 ⟨rfl, hb1⟩; have HB1 := Lib.hid (below_step (show Below w.heap.size w _ by repeat (first | exact Below.refl _ _ | apply below_alloc)) hb1); have z0 := cell_of_one (blk_below P0.out hb1); have z2 := cell_of_one (blk_below P2.out hb1); have P31 := Lib.hid (blk_below P3.out hb1); have HW1 := Lib.hid hb1; clear hb1)
   | (go_at_call 65; (refine (impl_TermOk.calls K2 n A2 c2 l2 false _ (Kd.C_below HC2.out HB1.out) hc2 HK2.out).mono ?_); rintro e W2 ⟨rfl, hb2⟩; have HB2 := Lib.hid (below_step HB1.out hb2); have P32 := Lib.hid (blk_below P31.out hb2); have HW2 := Lib.hid (below_step HW1.out hb2); clear hb2; have hcx0 := (blk_cell P32.out 0).trans rfl; have hcx1 := (blk_cell P32.out 1).trans rfl; have hfx0 := blk_frozen P32.out 0; have hfx1 := blk_frozen P32.out 1))
  refine bodyPost_ret (results_ct rfl _ _ (w.heap.size + 1 + 1 + 1) 51 #[.int .i64 0, .slice none 0 0] (0, 0) _ rfl (blk_put (cs := #[.int .i64 0, .slice none 0 0]) (blk_put (cs := #[.int .i64 0, .slice none 0 0]) P32.out 0 _ rfl) 1 _ rfl) Try.underlying51 rfl (by kernel_rfl)) rfl ?_
  exact ⟨_, rfl, Kd.R_nil _ _ _ _ _, below_set (below_set HB2.out HXB.out) HXB.out⟩
 obtain ⟨K2, hK2⟩ := (M.impl_termOk n l2).ev (b := true) ⟨fun _ => hT, fun _ => rfl⟩
 have HK2 := Lib.hid (hK2 K2 (Nat.le_refl _))
 clear hK2 zero
 obtain ⟨G, hG⟩ : ∃ G, M.grQ n l1 l2 n 0 0 0 = G := ⟨_, rfl⟩
 have hr : M.findO G = (r1, r2, r3) := by
  unfold M.findF at hr
  rw [if_pos ⟨hS, hT⟩, Int.toNat_natCast, hG] at hr
  exact hr
 have TT : ∀ W1 W3, Below (M.fndW n l1.length A1 c1 l2.length A2 c2 w).heap.size (M.fndW n l1.length A1 c1 l2.length A2 c2 w) W1 → Below (M.fndW2 w.heap.size (w.heap.size + 1) (w.heap.size + 1 + 1) W1).heap.size (M.fndW2 w.heap.size (w.heap.size + 1) (w.heap.size + 1 + 1) W1) W3 →
  Calls Try.prog 66 #[.int .i64 0, .int .i64 0, M.ptr w.heap.size, M.ptr (w.heap.size + 1), M.ptr (w.heap.size + 1 + 1), M.ptr W1.heap.size, M.ptr (W1.heap.size + 1)] W3 (M.Found n l1 A1 c1 l2 A2 c2 w.heap.size (w.heap.size + 1) (w.heap.size + 1 + 1) W1.heap.size (W1.heap.size + 1) (w.heap.size + 1 + 1 + 1) #[.int .i64 0, .slice none 0 0] w G []) := fun W1 W3 hb hb3 => by
  have := M.find_calls HC1.out hc1 HC2.out hc2 hS hT n 0 0 _ [] W3 (by omega) (by decide) (by
   have : 2 ^ n ≤ 2 ^ 4 := Nat.pow_le_pow_right (by decide) (by omega)
   show 0 + 2 ^ n ≤ 16
   omega) ((M.FE.start hb).below hb3)
  rw [show M.grQ n l1 l2 n 0 0 ([] : List Q.Sp).length = G from hG] at this
  exact this
 clear hG hn hS hT h64
 go_enter Try.func29, Try.ntmps29
 go_upto_region 6 with (first
  | (go_at_call 20; (refine (impl_StoryOk.calls K n A1 c1 l1 true _ (Kd.C_below HC1.out (by repeat (first | exact Below.refl _ _ | apply below_alloc))) hc1 HK.out).mono ?_); rintro e W1 ⟨rfl, hb1⟩; have HB1 := Lib.hid (below_step (show Below w.heap.size w _ by repeat (first | exact Below.refl _ _ | apply below_alloc)) hb1); have z0 := cell_of_one (blk_below P0.out hb1); have z2 := cell_of_one (blk_below P2.out hb1); have P31 := Lib.hid (blk_below P3.out hb1); have HW1 := Lib.hid hb1; clear hb1)
  | (go_at_call 65; (refine (impl_TermOk.calls K2 n A2 c2 l2 true _ (Kd.C_below HC2.out HB1.out) hc2 HK2.out).mono ?_); rintro e W2 ⟨rfl, hb2⟩; have HB2 := Lib.hid (below_step HB1.out hb2); have P32 := Lib.hid (blk_below P31.out hb2); have HW2 := Lib.hid (below_step HW1.out hb2); clear hb2))
 have E3 := M.FE.start HW2.out
 obtain ⟨W3, hW3⟩ : ∃ W3, M.fndW2 w.heap.size (w.heap.size + 1) (w.heap.size + 1 + 1) W2 = W3 := ⟨_, rfl⟩
 have T := Lib.hid (TT W2 _ HW2.out (Below.refl _ _))
 rw [hW3] at T E3
 have q5 := cell_of_one E3.hf
 unfold M.fndW2 at hW3
 rw [hW3]
 clear hW3 E3 P0 P2 P3 P31 z0 z2 TT info51
 cases G with
 | none =>
  obtain ⟨rfl, rfl, rfl⟩ : r1 = 0 ∧ r2 = [] ∧ r3 = false := by injection hr with e1 e2; injection e2 with e2 e3; exact ⟨e1.symm, e2.symm, e3.symm⟩
  clear hr
  go_wp2_with (go_at_call 66; (refine T.out.mono ?_); rintro e W5 ⟨at1, ok1, v5, sp5, rfl, E5_, _, _, hG5⟩; obtain rfl : ok1 = false := hG5; have E5 := Lib.hid E5_; have F0 := Lib.hid E5_.hx; clear E5_; have hcx0 := (blk_cell F0.out 0).trans rfl; have hcx1 := (blk_cell F0.out 1).trans rfl; have hfx0 := blk_frozen F0.out 0; have hfx1 := blk_frozen F0.out 1)
  refine bodyPost_ret (results_ct rfl _ _ (w.heap.size + 1 + 1 + 1) 51 #[.int .i64 0, .slice none 0 0] (0, 0) _ rfl (blk_put (cs := #[.int .i64 0, .slice none 0 0]) (blk_put (cs := #[.int .i64 0, .slice none 0 0]) F0.out 0 _ rfl) 1 _ rfl) Try.underlying51 rfl (by kernel_rfl)) rfl ?_
  exact ⟨_, rfl, Kd.R_nil _ _ _ _ _, below_set (below_set E5.out.hb HXB.out) HXB.out⟩
 | some q =>
  obtain ⟨a, x⟩ := q
  obtain ⟨rfl, rfl, rfl⟩ : r1 = x ∧ r2 = a ∧ r3 = true := by injection hr with e1 e2; injection e2 with e2 e3; exact ⟨e1.symm, e2.symm, e3.symm⟩
  clear hr
  go_wp2_with (go_at_call 66; (refine T.out.mono ?_); rintro e W5 ⟨at1, ok1, v5, sp5, rfl, E5_, _, _, hG5⟩; obtain ⟨ho_, hx_, hs_⟩ := hG5; subst ho_; subst hx_; rw [List.nil_append] at hs_; subst hs_; obtain ⟨Ao, co, eo⟩ := Kd.R_slice E5_.hr; subst eo; have E5 := Lib.hid E5_; have F0 := Lib.hid E5_.hx; clear E5_; have hcx0 := (blk_cell F0.out 0).trans rfl; have hcx1 := (blk_cell F0.out 1).trans rfl; have hfx0 := blk_frozen F0.out 0; have hfx1 := blk_frozen F0.out 1; have y0 := (blk_cell E5.out.hq 0).trans rfl; have y1 := (blk_cell E5.out.hq 1).trans rfl; have fy0 := blk_frozen E5.out.hq 0; have fy1 := blk_frozen E5.out.hq 1; have hxq := E5.out.hxq; have hxq' := fun h => hxq (Eq.symm h); obtain ⟨F1, F2, F3⟩ := E5.out.fin HXB.out (.int .i64 at1); have HF1 := Lib.hid F1; have HF2 := Lib.hid F2; have HF3 := Lib.hid F3; clear F1 F2 F3)
  refine bodyPost_ret (results_ct rfl _ _ (w.heap.size + 1 + 1 + 1) 51 #[.int .i64 at1, .slice Ao sp5.length co] (0, 0) _ rfl HF1.out Try.underlying51 rfl (by kernel_rfl)) rfl ?_
  exact ⟨_, rfl, HF2.out, HF3.out⟩

end Go.Proofs.Ytcaogllnbpmcgaa.P

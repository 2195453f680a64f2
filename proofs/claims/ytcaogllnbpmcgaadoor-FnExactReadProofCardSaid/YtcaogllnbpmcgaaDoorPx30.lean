/- Go's functions come to just the answers of the Lean functions told here. -/
import Derived.Test.YtcaogllnbpmcgaaDoorPx15
import Derived.Test.YtcaogllnbpmcgaaDoorPx17
import Derived.Test.YtcaogllnbpmcgaaDoorPx28
import Derived.Test.YtcaogllnbpmcgaaDoorPx29
namespace Go.Proofs.YtcaogllnbpmcgaaDoor.P
open Go.RowKit Go.Proofs.YtcaogllnbpmcgaaDoorW.PrintWords Go.Proofs.YtcaogllnbpmcgaaDoorW.PrintLast Go.Proofs.YtcaogllnbpmcgaaDoorW.PrintMore
attribute [local go_sem] max2_int min2_int max_two min_two max_three min_three max_four min_four
set_option linter.unusedVariables false
set_option linter.unusedSimpArgs false

/-! ### laws_FnExactReadProof: function 5 -/
mutual
noncomputable def laws_FnExactReadProof.j0 : Nat → Int → List (S76) → List (S84) → ByteArray → Bool → List (S79) → List (S82) → Bool → Bool → Int → List (S68) → Int → List (S68) → Option (Bool)
 | 0, _, _, _, _, _, _, _, _, _, _, _, _, _ => none
 | k + 1, x0, x1, x2, x3, x11, x12, x13, x15, x64, x387000, x387001, x399000, x399001 => if x64 = true then (some false) else ((laws_toClaimS.f k x1).bind fun t400 => ((laws_eqClaimS.f k x12 t400).bind fun t403 => (if t403 = true then ((laws_toMarkS.f k x2).bind fun t404 => ((laws_eqMarkS.f k x13 t404).bind fun t407 => (if t407 = true then ((laws_markClaimS.f k x12 1).bind fun bt408 => ((laws_markMarkS.f k x13 bt408.1).bind fun bt409 => (if bt409.1 < 0 then (laws_FnExactReadProof.j1 k x0 x1 x2 x3 x11 true x387000 x387001 x399000 x399001) else ((laws_eqProof.f k x399000 x399001 x387000 x387001).bind fun t411 => (if t411 = true then (laws_FnExactReadProof.j1 k x0 x1 x2 x3 x11 (x15 != x11) x387000 x387001 x399000 x399001) else (laws_FnExactReadProof.j1 k x0 x1 x2 x3 x11 true x387000 x387001 x399000 x399001)))))) else (some false)))) else (some false))))
noncomputable def laws_FnExactReadProof.j1 : Nat → Int → List (S76) → List (S84) → ByteArray → Bool → Bool → Int → List (S68) → Int → List (S68) → Option (Bool)
 | 0, _, _, _, _, _, _, _, _, _, _ => none
 | k + 1, x0, x1, x2, x3, x11, x93, x387000, x387001, x399000, x399001 => if x93 = true then (some false) else ((laws_markProof.f k x399000 x399001 1).bind fun bt412 => ((laws_heldProof.f k x399000 bt412.2 1).bind fun t414 => (if t414 < 0 then (some false) else (if t414 = bt412.1 then ((laws_toClaimS.f k x1).bind fun t415 => ((laws_toMarkS.f k x2).bind fun t418 => ((impl_ReadProof.f x0 t415 t418 x3).bind fun bt421 => ((laws_eqProof.f k bt421.1 bt421.2.1 x387000 x387001).bind fun t427 => (if t427 = true then (laws_FnExactReadProof.j2 k bt412.1 (bt421.2.2 != x11) x399000 bt412.2) else (laws_FnExactReadProof.j2 k bt412.1 true x399000 bt412.2)))))) else (some false)))))
noncomputable def laws_FnExactReadProof.j2 : Nat → Int → Bool → Int → List (S68) → Option (Bool)
 | 0, _, _, _, _ => none
 | k + 1, x17, x123, x399000, x399001 => if x123 = true then (some false) else ((laws_heldProof.f k x399000 x399001 1).bind fun t428 => (if t428 < 0 then (some false) else (if t428 = x17 then (some true) else (some false))))
end
noncomputable def laws_FnExactReadProof.f (k : Nat) (a0 : Int) (l1 : List (S76)) (l2 : List (S84)) (a3 : ByteArray) : Option (Bool) := if (a3.size : Int) > 1048576 then (some true) else ((laws_szClaimS.f k l1 1048576).bind fun t373 => (if t373 < 0 then (some true) else ((laws_szMarkS.f l2 t373).bind fun t374 => (if t374 < 0 then (some true) else ((laws_toClaimS.f k l1).bind fun t375 => ((laws_toMarkS.f k l2).bind fun t378 => ((spec_ReadProof.f k a0 t375 t378 a3).bind fun bt381 => ((laws_toClaimS.f k l1).bind fun t387 => ((laws_toMarkS.f k l2).bind fun t390 => ((impl_ReadProof.f a0 t387 t390 a3).bind fun bt393 => ((laws_eqProof.f k bt393.1 bt393.2.1 bt381.1 bt381.2.1).bind fun t399 => (if t399 = true then (laws_FnExactReadProof.j0 k a0 l1 l2 a3 bt381.2.2 t387 t390 bt393.2.2 (bt393.2.2 != bt381.2.2) bt381.1 bt381.2.1 bt393.1 bt393.2.1) else (laws_FnExactReadProof.j0 k a0 l1 l2 a3 bt381.2.2 t387 t390 bt393.2.2 true bt381.1 bt381.2.1 bt393.1 bt393.2.1)))))))))))))
theorem markC_at {v : Value} {l0 r2 : List (S79)} {a1 r1 : Int} {w0 w : World} {ok : Nat → Prop} (k : Nat) (hB : Below w0.heap.size w0 w) (ho : Kd.S k79 79 w w0.heap.size ok v l0) (h : laws_markClaimS.f k l0 a1 = some (r1, r2)) :
 Calls Tryd.prog 23 #[v, .int .i64 a1] w fun e w' => e = .returned (.int .i64 r1) ∧ Below w0.heap.size w0 w' ∧ Kept w w' (fun k_ => ok k_ ∧ ∃ q, q ∈ 79 :: Kd.E k79 ∧ ∃ cells, w.heap[k_]? = some (.cells cells q (0, 0))) :=
 (laws_markClaimS.calls k _ v l0 a1 r1 r2 w0 w hB (Kd.S_mono (Kd.S_bound ho) (fun k_ hk_ => ⟨hk_.1, hk_.2.2.2⟩)) h).mono (fun e w' h => ⟨h.1, h.2.2.1, h.2.2.2⟩)
section
variable {β : Type} {d2 : Kd β} {e e2 base g : Nat} {E : List Nat} {W W2 : World} {ok ok1 : Nat → Prop} {v : Value} {xs : List β} {cs : Array Value}
theorem R_sameT (hE : d2.E = []) (h : d2.R e2 W base ok v xs) (hk : Kept W W2 (fun k => some k ≠ v.ownBlock ∧ ∃ q, q ∈ e :: E ∧ ∃ cells, W.heap[k]? = some (.cells cells q (0, 0)))) : d2.R e2 W2 base ok v xs :=
 Kd.R_mono (Kd.R_kept (Kd.R_tight2 hE h) hk (fun k hk1 hs => hs.1 hk1.1)) (fun k hk => hk.2)
theorem R_otherT (hE : d2.E = []) (h : d2.R e2 W base ok v xs) (hk : Kept W W2 (fun k => ok1 k ∧ ∃ q, q ∈ e :: E ∧ ∃ cells, W.heap[k]? = some (.cells cells q (0, 0)))) (ht : ∀ q, q ∈ e :: E → q ≠ e2) : d2.R e2 W2 base ok v xs :=
 Kd.R_mono (Kd.R_kept (Kd.R_tight2 hE h) hk (fun k hk1 hs => by
  obtain ⟨_, q, hq, cells, hc⟩ := hs
  obtain ⟨cells2, hc2⟩ := Kd.R_typed h k hk1.1.symm
  rw [hc] at hc2
  injection hc2 with hc2
  injection hc2 with _ hc2 _
  exact ht q hq hc2)) (fun k hk => hk.2)
theorem blk_otherT {t : Nat} (hb : W.heap[g]? = some (.cells cs t (0, 0))) (hk : Kept W W2 (fun k => ok1 k ∧ ∃ q, q ∈ e :: E ∧ ∃ cells, W.heap[k]? = some (.cells cells q (0, 0)))) (ht : ∀ q, q ∈ e :: E → q ≠ t) : W2.heap[g]? = some (.cells cs t (0, 0)) :=
 blk_kept hb hk (fun hs => by
  obtain ⟨_, q, hq, cells, hc⟩ := hs
  rw [hb] at hc
  injection hc with hc
  injection hc with _ hc _
  exact ht q hq hc.symm)
end
set_option maxHeartbeats 8000000 in
set_option maxRecDepth 100000 in
theorem laws_FnExactReadProof.calls (k : Nat) (a0 : Int) (A1 : Option Addr) (c1 : Nat) (l1 : List (S76)) (A2 : Option Addr) (c2 : Nat) (l2 : List (S84)) (a3 : ByteArray) (r : Bool) (w : World) (hr1 : Kd.C k76 w A1 l1.length l1) (hc1 : l1.length ≤ c1) (hr2 : Kd.C k84 w A2 l2.length l2) (hc2 : l2.length ≤ c2) (h : laws_FnExactReadProof.f k a0 l1 l2 a3 = some r) (hrt_ : r = true) :
  Calls Tryd.prog 5 #[.int .i64 a0, .slice A1 l1.length c1, .slice A2 l2.length c2, .string a3] w fun e w' => e = .returned (.bool r) ∧ Below w.heap.size w w' := by
 subst hrt_
 have hu27 := Tryd.underlying27
 have HR1 := mk_ hr1
 have HC1 := mk_ hc1
 clear hr1 hc1
 have HR2 := mk_ hr2
 have HC2 := mk_ hc2
 clear hr2 hc2
 have HB := mk_ (Below.refl w.heap.size w)
 unfold laws_FnExactReadProof.f at h
 have H := h
 clear h
 by_cases c5 : (a3.size : Int) > 1048576
 ·rw [if_pos c5] at H
  have c5b0 : decide (1048576 < (a3.size : Int)) = true := decide_eq_true c5
  have c5b1 : decide (1048576 < a3.size) = true := decide_eq_true (by omega)
  clear c5
  first | (obtain rfl := Option.some.inj H) | clear H
  go_enter Tryd.func5, Tryd.ntmps5
  go_wp2
  go_ret
  exact ⟨er_, below_at HB.out⟩
 rw [if_neg c5] at H
 have c5b0 : decide (1048576 < (a3.size : Int)) = false := decide_eq_false c5
 have c5b1 : decide (1048576 < a3.size) = false := decide_eq_false (by omega)
 clear c5
 replace H := Option.bind_eq_some_iff.mp H
 obtain ⟨t373, A60, H⟩ := H
 try dsimp only at H
 have A6 := mk_ A60
 clear A60
 by_cases c7 : t373 < 0
 ·rw [if_pos c7] at H
  have c7b0 : decide (t373 < 0) = true := decide_eq_true c7
  clear c7
  first | (obtain rfl := Option.some.inj H) | clear H
  go_enter Tryd.func5, Tryd.ntmps5
  go_wp2_with (first | ((with_reducible refine gate_callee (f := 13) rfl ?_); refine goesL_ (some 26) rfl rfl Tryd.func13 (by kernel_rfl) rfl #[.slice A1 l1.length c1, .int .i64 1048576] rfl gl_ ?_; (with_reducible refine (laws_szClaimS.calls k _ _ l1 1048576 t373 _ ?side1 ?side2 A6.out).mono ?_); (case side1 => exact Kd.C_below HR1.out lt_); (case side2 => exact HC1.out); rintro e w8 ⟨rfl, hb⟩; refine ⟨_, rfl, ?_⟩; replace HB := mk_ (below_step (below_at HB.out) hb); (try clear hb); (try clear hb2); (try clear hk); (try clear hi)))
  go_ret
  exact ⟨er_, below_at HB.out⟩
 rw [if_neg c7] at H
 have c7b0 : decide (t373 < 0) = false := decide_eq_false c7
 clear c7
 replace H := Option.bind_eq_some_iff.mp H
 obtain ⟨t374, A90, H⟩ := H
 try dsimp only at H
 have A9 := mk_ A90
 clear A90
 by_cases c10 : t374 < 0
 ·rw [if_pos c10] at H
  have c10b0 : decide (t374 < 0) = true := decide_eq_true c10
  clear c10
  first | (obtain rfl := Option.some.inj H) | clear H
  go_enter Tryd.func5, Tryd.ntmps5
  go_wp2_with (first | ((with_reducible refine gate_callee (f := 13) rfl ?_); refine goesL_ (some 26) rfl rfl Tryd.func13 (by kernel_rfl) rfl #[.slice A1 l1.length c1, .int .i64 1048576] rfl gl_ ?_; (with_reducible refine (laws_szClaimS.calls k _ _ l1 1048576 t373 _ ?side1 ?side2 A6.out).mono ?_); (case side1 => exact Kd.C_below HR1.out lt_); (case side2 => exact HC1.out); rintro e w11 ⟨rfl, hb⟩; refine ⟨_, rfl, ?_⟩; replace HB := mk_ (below_step (below_at HB.out) hb); (try clear hb); (try clear hb2); (try clear hk); (try clear hi)) | ((with_reducible refine gate_callee (f := 14) rfl ?_); refine goesL_ (some 31) rfl rfl Tryd.func14 (by kernel_rfl) rfl #[.slice A2 l2.length c2, .int .i64 t373] rfl gl_ ?_; (with_reducible refine (laws_szMarkS.calls _ _ l2 t373 t374 _ ?side1 ?side2 A9.out).mono ?_); (case side1 => exact Kd.C_below (Kd.C_below HR2.out HB.out) lt_); (case side2 => exact HC2.out); rintro e w' ⟨rfl, ⟨nd, rfl⟩⟩; refine ⟨_, rfl, ?_⟩))
  go_ret
  exact ⟨er_, below_at HB.out⟩
 rw [if_neg c10] at H
 have c10b0 : decide (t374 < 0) = false := decide_eq_false c10
 clear c10
 replace H := Option.bind_eq_some_iff.mp H
 obtain ⟨t375, A120, H⟩ := H
 try dsimp only at H
 have A12 := mk_ A120
 clear A120
 replace H := Option.bind_eq_some_iff.mp H
 obtain ⟨t378, A130, H⟩ := H
 try dsimp only at H
 have A13 := mk_ A130
 clear A130
 replace H := Option.bind_eq_some_iff.mp H
 obtain ⟨⟨t381, t382, t385⟩, A140, H⟩ := H
 try dsimp only at H
 have A14 := mk_ A140
 clear A140
 replace H := Option.bind_eq_some_iff.mp H
 obtain ⟨t387, A150, H⟩ := H
 try dsimp only at H
 have A15 := mk_ A150
 clear A150
 replace H := Option.bind_eq_some_iff.mp H
 obtain ⟨t390, A160, H⟩ := H
 try dsimp only at H
 have A16 := mk_ A160
 clear A160
 replace H := Option.bind_eq_some_iff.mp H
 obtain ⟨⟨t393, t394, t397⟩, A170, H⟩ := H
 try dsimp only at H
 have A17 := mk_ A170
 clear A170
 have HC18 := mk_ H
 clear H
 go_enter Tryd.func5, Tryd.ntmps5
 go_upto_region 14 with (first | ((with_reducible refine gate_callee (f := 13) rfl ?_); refine goesL_ (some 26) rfl rfl Tryd.func13 (by kernel_rfl) rfl #[.slice A1 l1.length c1, .int .i64 1048576] rfl gl_ ?_; (with_reducible refine (laws_szClaimS.calls k _ _ l1 1048576 t373 _ ?side1 ?side2 A6.out).mono ?_); (case side1 => exact Kd.C_below HR1.out lt_); (case side2 => exact HC1.out); rintro e w19 ⟨rfl, hb⟩; refine ⟨_, rfl, ?_⟩; replace HB := mk_ (below_step (below_at HB.out) hb); (try clear hb); (try clear hb2); (try clear hk); (try clear hi)) | ((with_reducible refine gate_callee (f := 14) rfl ?_); refine goesL_ (some 31) rfl rfl Tryd.func14 (by kernel_rfl) rfl #[.slice A2 l2.length c2, .int .i64 t373] rfl gl_ ?_; (with_reducible refine (laws_szMarkS.calls _ _ l2 t373 t374 _ ?side1 ?side2 A9.out).mono ?_); (case side1 => exact Kd.C_below (Kd.C_below HR2.out HB.out) lt_); (case side2 => exact HC2.out); rintro e w' ⟨rfl, ⟨nd, rfl⟩⟩; refine ⟨_, rfl, ?_⟩; (try (rw [drewN_self w19]; generalize hq_ : World.drewN w19 _ = w19; have n0_ : Aside0 (Below w.heap.size w w19) := ⟨by rw [← hq_]; exact (below_at HB.out)⟩; clear HB hq_; have HB := n0_; clear n0_))) | ((with_reducible refine gate_callee (f := 16) rfl ?_); refine goesL_ (some 37) rfl rfl Tryd.func16 (by kernel_rfl) rfl #[.slice A1 l1.length c1] rfl gl_ ?_; (with_reducible refine (laws_toClaimS.calls k _ _ l1 t375 _ ?side1 ?side2 A12.out).mono ?_); (case side1 => exact Kd.C_below (Kd.C_below HR1.out HB.out) lt_); (case side2 => exact HC1.out); rintro e w20 ⟨v376, rfl, ho0, hb⟩; refine ⟨_, rfl, ?_⟩; have HO377 := mk_ (Kd.S_lower ho0 (below_size (below_at HB.out))); replace HB := mk_ (below_step (below_at HB.out) hb); (try clear hb); (try clear hb2); (try clear hk); (try clear hi); (try clear ho0)) | ((with_reducible refine gate_callee (f := 17) rfl ?_); refine goesL_ (some 39) rfl rfl Tryd.func17 (by kernel_rfl) rfl #[.slice A2 l2.length c2] rfl gl_ ?_; (with_reducible refine (laws_toMarkS.calls k _ _ l2 t378 _ ?side1 ?side2 A13.out).mono ?_); (case side1 => exact Kd.C_below (Kd.C_below HR2.out HB.out) lt_); (case side2 => exact HC2.out); rintro e w21 ⟨v379, rfl, ho0, hb⟩; refine ⟨_, rfl, ?_⟩; replace HO377 := mk_ (Kd.S_elder' (Kd.S_below HO377.out lt_) (Kd.R_base ho0) hb); have HO380 := mk_ (Kd.R_lower ho0 (below_size (below_at HB.out))); replace HB := mk_ (below_step (below_at HB.out) hb); (try clear hb); (try clear hb2); (try clear hk); (try clear hi); (try clear ho0); obtain ⟨Ao22, co22, eo22⟩ := Kd.S_slice HO377.out; subst eo22; obtain ⟨Ao23, co23, eo23⟩ := Kd.R_slice HO380.out; subst eo23) | ((with_reducible refine gate_callee (f := 22) rfl ?_); refine goesL_ (some 41) rfl rfl Tryd.func22 (by kernel_rfl) rfl #[.int .i64 a0, .slice Ao22 t375.length co22, .slice Ao23 t378.length co23, .string a3] rfl gl_ ?_; (with_reducible refine (spec_ReadProof.calls k a0 _ _ t375 _ _ t378 a3 t381 t382 t385 _ ?side1 ?side2 ?side3 ?side4 A14.out).mono ?_); (case side1 => exact Kd.C_below (Kd.S_reads' HO377.out).2.2 lt_); (case side2 => exact (Kd.S_reads' HO377.out).2.1); (case side3 => exact Kd.C_below (Kd.R_reads' HO380.out).2.2 lt_); (case side4 => exact (Kd.R_reads' HO380.out).2.1); rintro e w24 ⟨v383, rfl, ho0, hb⟩; refine ⟨_, rfl, ?_⟩; replace HO377 := mk_ (Kd.S_below (Kd.S_below HO377.out lt_) hb); replace HO380 := mk_ (Kd.R_below (Kd.R_below HO380.out lt_) hb); have HO384 := mk_ (Kd.R_lower ho0 (below_size (below_at HB.out))); replace HB := mk_ (below_step (below_at HB.out) hb); (try clear hb); (try clear hb2); (try clear hk); (try clear hi); (try clear ho0)) | ((with_reducible refine gate_dst (N := 10) rfl ?_); refine bx_ 10 #[.int .i64 0, .slice none 0 0] 27 ?_; intro gb386 hg w25 hbox hb; replace HO377 := mk_ (Kd.S_below (Kd.S_below HO377.out lt_) hb); replace HO380 := mk_ (Kd.R_below (Kd.R_below HO380.out lt_) hb); replace HO384 := mk_ (Kd.R_below (Kd.R_below HO384.out lt_) hb); have BK386 := mk_ (hbox); have GW386 := mk_ (gb_ hg HB.out); have GE386 := mk_ (gb_ hg HB.out); replace HB := mk_ (below_step (below_at HB.out) hb); clear hb hbox hg; have hcz26_0 := blk_cell BK386.out 0; have hcz26_1 := blk_cell BK386.out 1; have hfz26_0 := blk_frozen BK386.out 0; have hfz26_1 := blk_frozen BK386.out 1; obtain ⟨Ao27, co27, eo27⟩ := Kd.R_slice HO384.out; subst eo27) | ((with_reducible refine gate_callee (f := 16) rfl ?_); refine goesL_ (some 45) rfl rfl Tryd.func16 (by kernel_rfl) rfl #[.slice A1 l1.length c1] rfl gl_ ?_; (with_reducible refine (laws_toClaimS.calls k _ _ l1 t387 _ ?side1 ?side2 A15.out).mono ?_); (case side1 => exact Kd.C_below HR1.out (at_ HB.out)); (case side2 => exact HC1.out); rintro e w28 ⟨v388, rfl, ho0, hb⟩; refine ⟨_, rfl, ?_⟩; replace HO384 := mk_ (Kd.R_below (by (with_reducible repeat (first | apply Kd.R_alloc | apply Kd.R_drewN | apply Kd.R_drew)); exact (Kd.R_mono (Kd.R_far (p := ⟨gb386, 1, none⟩) (Kd.R_far (p := ⟨gb386, 0, none⟩) (Kd.R_types HO384.out BK386.out (by decide)) (fun _ hk => hk.2) (.int .i64 t381)) (fun _ hk => hk.2) (.slice Ao27 t382.length co27)) (fun _ h_ => h_.1))) hb); have HO389 := mk_ (Kd.S_lower (Kd.S_new' (Kd.S_new' ho0 (Kd.S_lt (by (with_reducible repeat (first | apply Kd.S_alloc | apply Kd.S_drewN | apply Kd.S_drew)); exact (Kd.S_mono (Kd.S_far (p := ⟨gb386, 1, none⟩) (Kd.S_far (p := ⟨gb386, 0, none⟩) (Kd.S_types HO377.out BK386.out (by decide)) (fun _ hk => hk.2) (.int .i64 t381)) (fun _ hk => hk.2) (.slice Ao27 t382.length co27)) (fun _ h_ => h_.1))))) (Kd.R_lt (by (with_reducible repeat (first | apply Kd.R_alloc | apply Kd.R_drewN | apply Kd.R_drew)); exact (Kd.R_mono (Kd.R_far (p := ⟨gb386, 1, none⟩) (Kd.R_far (p := ⟨gb386, 0, none⟩) (Kd.R_types HO380.out BK386.out (by decide)) (fun _ hk => hk.2) (.int .i64 t381)) (fun _ hk => hk.2) (.slice Ao27 t382.length co27)) (fun _ h_ => h_.1))))) (below_size (at_ HB.out))); replace HO380 := mk_ (Kd.R_below (by (with_reducible repeat (first | apply Kd.R_alloc | apply Kd.R_drewN | apply Kd.R_drew)); exact (Kd.R_mono (Kd.R_far (p := ⟨gb386, 1, none⟩) (Kd.R_far (p := ⟨gb386, 0, none⟩) (Kd.R_types HO380.out BK386.out (by decide)) (fun _ hk => hk.2) (.int .i64 t381)) (fun _ hk => hk.2) (.slice Ao27 t382.length co27)) (fun _ h_ => h_.1))) hb); replace BK386 := mk_ (blk_below (g := gb386) (o := .cells #[.int .i64 t381, .slice Ao27 t382.length co27] 27 (0, 0)) (by refine bs_ ?_; refine blk_put (cs := #[.int .i64 t381, .slice none 0 0]) ?_ 1 _ rfl; refine bs_ ?_; refine blk_put (cs := #[.int .i64 0, .slice none 0 0]) ?_ 0 _ rfl; refine bs_ ?_; exact BK386.out) hb); replace HB := mk_ (below_step (at_ HB.out) hb); (try clear HO377); (try clear hb); (try clear hb2); (try clear hk); (try clear hi); (try clear ho0)) | ((with_reducible refine gate_callee (f := 17) rfl ?_); refine goesL_ (some 47) rfl rfl Tryd.func17 (by kernel_rfl) rfl #[.slice A2 l2.length c2] rfl gl_ ?_; (with_reducible refine (laws_toMarkS.calls k _ _ l2 t390 _ ?side1 ?side2 A16.out).mono ?_); (case side1 => exact Kd.C_below (Kd.C_below HR2.out HB.out) lt_); (case side2 => exact HC2.out); rintro e w29 ⟨v391, rfl, ho0, hb⟩; refine ⟨_, rfl, ?_⟩; replace HO384 := mk_ (Kd.R_below (Kd.R_below HO384.out lt_) hb); replace HO389 := mk_ (Kd.S_elder' (Kd.S_below HO389.out lt_) (Kd.R_base ho0) hb); have HO392 := mk_ (Kd.R_lower (Kd.R_new' ho0 (Kd.R_lt (Kd.R_below HO380.out lt_))) (below_size (at_ HB.out))); replace BK386 := mk_ (blk_at BK386.out hb); replace HB := mk_ (below_step (at_ HB.out) hb); (try clear HO377 HO380); (try clear hb); (try clear hb2); (try clear hk); (try clear hi); (try clear ho0); obtain ⟨Ao30, co30, eo30⟩ := Kd.S_slice HO389.out; subst eo30; obtain ⟨Ao31, co31, eo31⟩ := Kd.R_slice HO392.out; subst eo31) | ((with_reducible refine gate_callee (f := 12) rfl ?_); refine goesL_ (some 53) rfl rfl Tryd.func12 (by kernel_rfl) rfl #[.int .i64 a0, .slice Ao30 t387.length co30, .slice Ao31 t390.length co31, .string a3] rfl gl_ ?_; (with_reducible refine (impl_ReadProof.calls a0 _ _ t387 _ _ t390 a3 t393 t394 t397 _ ?side1 ?side2 ?side3 ?side4 A17.out).mono ?_); (case side1 => exact Kd.C_below (Kd.S_reads' HO389.out).2.2 lt_); (case side2 => exact (Kd.S_reads' HO389.out).2.1); (case side3 => exact Kd.C_below (Kd.R_reads' HO392.out).2.2 lt_); (case side4 => exact (Kd.R_reads' HO392.out).2.1); rintro e w32 ⟨v395, rfl, ho0, hb⟩; refine ⟨_, rfl, ?_⟩; replace HO389 := mk_ (Kd.S_below (Kd.S_below HO389.out lt_) hb); replace HO392 := mk_ (Kd.R_below (Kd.R_below HO392.out lt_) hb); have HO396 := mk_ (Kd.R_lower (Kd.R_new' ho0 (Kd.R_lt (Kd.R_below HO384.out lt_))) (below_size (at_ HB.out))); replace HO384 := mk_ (Kd.R_elder' (Kd.R_below HO384.out lt_) (Kd.R_base ho0) hb); replace BK386 := mk_ (blk_at BK386.out hb); replace HB := mk_ (below_step (at_ HB.out) hb); (try clear HO377 HO380); (try clear hb); (try clear hb2); (try clear hk); (try clear hi); (try clear ho0)) | ((with_reducible refine gate_dst (N := 14) rfl ?_); refine bx_ 14 #[.int .i64 0, .slice none 0 0] 27 ?_; intro gb398 hg w33 hbox hb; replace HO384 := mk_ (Kd.R_below (Kd.R_below HO384.out lt_) hb); replace HO389 := mk_ (Kd.S_below (Kd.S_below HO389.out lt_) hb); replace HO392 := mk_ (Kd.R_below (Kd.R_below HO392.out lt_) hb); replace HO396 := mk_ (Kd.R_below (Kd.R_below HO396.out lt_) hb); have BK398 := mk_ (hbox); have GW398 := mk_ ((by rw [hg]; exact (below_size (at_ HB.out)) : w.heap.size ≤ gb398)); have GE398 := mk_ ((by rw [hg]; exact (below_size (at_ HB.out)) : w.heap.size ≤ gb398)); replace HB := mk_ (below_step (at_ HB.out) hb); have NB386_398 := mk_ ((by rw [hg]; exact Nat.ne_of_lt (blk_lt (g := gb386) (o := .cells #[.int .i64 t381, .slice Ao27 t382.length co27] 27 (0, 0)) (bk_ BK386.out)) : gb386 ≠ gb398)); have NB398_386 := mk_ ((by rw [hg]; exact Nat.ne_of_gt (blk_lt (g := gb386) (o := .cells #[.int .i64 t381, .slice Ao27 t382.length co27] 27 (0, 0)) (bk_ BK386.out)) : gb398 ≠ gb386)); replace BK386 := mk_ (blk_at BK386.out hb); (try clear HO377 HO380); clear hb hbox hg; have hnb34 := NB398_386.out; have hnc34 := NB386_398.out; have hcz35_0 := blk_cell BK398.out 0; have hcz35_1 := blk_cell BK398.out 1; have hfz35_0 := blk_frozen BK398.out 0; have hfz35_1 := blk_frozen BK398.out 1; obtain ⟨Ao36, co36, eo36⟩ := Kd.R_slice HO396.out; subst eo36))
 (try simp only [Act.put, z0_, z1_, z2_])
 go_cut [64] (fun v64 wc => ∃ (kq : Nat) (x64_17 : Bool), v64 = .bool x64_17 ∧ Aside0 (laws_FnExactReadProof.j0 kq a0 l1 l2 a3 t385 t387 t390 t397 x64_17 t381 t382 t393 t394 = some true) ∧ Aside0 (kq ≤ k) ∧ Aside0 (Kd.S k79 79 wc w.heap.size (fun k_ => some k_ ≠ ((.slice Ao31 t390.length co31) : Value).ownBlock) (.slice Ao30 t387.length co30) t387) ∧ Aside0 (Kd.R k82 82 wc w.heap.size (fun _ => True) (.slice Ao31 t390.length co31) t390) ∧ Aside0 (Kd.R k68 68 wc w.heap.size (fun k_ => some k_ ≠ ((.slice Ao36 t394.length co36) : Value).ownBlock) (.slice Ao27 t382.length co27) t382) ∧ Aside0 (Kd.R k68 68 wc w.heap.size (fun k_ => some k_ ≠ ((.slice Ao27 t382.length co27) : Value).ownBlock) (.slice Ao36 t394.length co36) t394) ∧ Aside0 (wc.heap[gb386]? = some (.cells #[.int .i64 t381, (.slice Ao27 t382.length co27)] 27 (0, 0))) ∧ Aside0 (wc.heap[gb398]? = some (.cells #[.int .i64 t393, (.slice Ao36 t394.length co36)] 27 (0, 0))) ∧ Aside0 (Below w.heap.size w wc))
 case first =>
  have H := HC18.out
  clear HC18
  replace H := Option.bind_eq_some_iff.mp H
  obtain ⟨t399, A370, H⟩ := H
  try dsimp only at H
  have A37 := mk_ A370
  clear A370
  by_cases c38 : t399 = true
  ·subst c38
   rw [if_pos rfl] at H
   have H' := mk_ H
   clear H
   have hnb39 := NB398_386.out
   have hnc39 := NB386_398.out
   have hcz40_0 := blk_cell BK398.out 0
   have hcz40_1 := blk_cell BK398.out 1
   have hfz40_0 := blk_frozen BK398.out 0
   have hfz40_1 := blk_frozen BK398.out 1
   have hcz41_0 := blk_cell BK386.out 0
   have hcz41_1 := blk_cell BK386.out 1
   have hfz41_0 := blk_frozen BK386.out 0
   have hfz41_1 := blk_frozen BK386.out 1
   go_wp2_with (first | ((with_reducible refine gate_callee (f := 21) rfl ?_); refine goesL_ (some 58) rfl rfl Tryd.func21 (by kernel_rfl) rfl #[.agg #[.int .i64 t393, .slice Ao36 t394.length co36], .agg #[.int .i64 t381, .slice Ao27 t382.length co27]] rfl gl_ ?_; (with_reducible refine (laws_eqProof.calls k t393 _ _ t394 t381 _ _ t382 true _ ?side1 ?side2 ?side3 ?side4 A37.out).mono ?_); (case side1 => refine (Kd.R_reads' (e := 68) (base := w.heap.size) (ok := fun k_ => (True ∧ some k_ ≠ (.slice Ao27 t382.length co27 : Value).ownBlock)) (n := t394.length) (c := co36) ?_).2.2; exact (by (with_reducible repeat (first | apply Kd.R_alloc | apply Kd.R_drewN | apply Kd.R_drew)); exact (Kd.R_mono (Kd.R_far (p := ⟨gb398, 1, none⟩) (Kd.R_far (p := ⟨gb398, 0, none⟩) (Kd.R_types HO396.out BK398.out (by decide)) (fun _ hk => hk.2) (.int .i64 t393)) (fun _ hk => hk.2) (.slice Ao36 t394.length co36)) (fun _ h_ => h_.1)))); (case side2 => exact (Kd.R_reads' HO396.out).2.1); (case side3 => refine (Kd.R_reads' (e := 68) (base := w.heap.size) (ok := fun k_ => (True ∧ some k_ ≠ (.slice Ao36 t394.length co36 : Value).ownBlock)) (n := t382.length) (c := co27) ?_).2.2; exact (by (with_reducible repeat (first | apply Kd.R_alloc | apply Kd.R_drewN | apply Kd.R_drew)); exact (Kd.R_mono (Kd.R_far (p := ⟨gb398, 1, none⟩) (Kd.R_far (p := ⟨gb398, 0, none⟩) (Kd.R_types HO384.out BK398.out (by decide)) (fun _ hk => hk.2) (.int .i64 t393)) (fun _ hk => hk.2) (.slice Ao36 t394.length co36)) (fun _ h_ => h_.1)))); (case side4 => exact (Kd.R_reads' HO384.out).2.1); rintro e w42 ⟨rfl, hb⟩; refine ⟨_, rfl, ?_⟩; replace HO384 := mk_ (Kd.R_below (by (with_reducible repeat (first | apply Kd.R_alloc | apply Kd.R_drewN | apply Kd.R_drew)); exact (Kd.R_mono (Kd.R_far (p := ⟨gb398, 1, none⟩) (Kd.R_far (p := ⟨gb398, 0, none⟩) (Kd.R_types HO384.out BK398.out (by decide)) (fun _ hk => hk.2) (.int .i64 t393)) (fun _ hk => hk.2) (.slice Ao36 t394.length co36)) (fun _ h_ => h_.1))) hb); replace HO389 := mk_ (Kd.S_below (by (with_reducible repeat (first | apply Kd.S_alloc | apply Kd.S_drewN | apply Kd.S_drew)); exact (Kd.S_mono (Kd.S_far (p := ⟨gb398, 1, none⟩) (Kd.S_far (p := ⟨gb398, 0, none⟩) (Kd.S_types HO389.out BK398.out (by decide)) (fun _ hk => hk.2) (.int .i64 t393)) (fun _ hk => hk.2) (.slice Ao36 t394.length co36)) (fun _ h_ => h_.1))) hb); replace HO392 := mk_ (Kd.R_below (by (with_reducible repeat (first | apply Kd.R_alloc | apply Kd.R_drewN | apply Kd.R_drew)); exact (Kd.R_mono (Kd.R_far (p := ⟨gb398, 1, none⟩) (Kd.R_far (p := ⟨gb398, 0, none⟩) (Kd.R_types HO392.out BK398.out (by decide)) (fun _ hk => hk.2) (.int .i64 t393)) (fun _ hk => hk.2) (.slice Ao36 t394.length co36)) (fun _ h_ => h_.1))) hb); replace HO396 := mk_ (Kd.R_below (by (with_reducible repeat (first | apply Kd.R_alloc | apply Kd.R_drewN | apply Kd.R_drew)); exact (Kd.R_mono (Kd.R_far (p := ⟨gb398, 1, none⟩) (Kd.R_far (p := ⟨gb398, 0, none⟩) (Kd.R_types HO396.out BK398.out (by decide)) (fun _ hk => hk.2) (.int .i64 t393)) (fun _ hk => hk.2) (.slice Ao36 t394.length co36)) (fun _ h_ => h_.1))) hb); replace BK386 := mk_ (blk_below (g := gb386) (o := .cells #[.int .i64 t381, .slice Ao27 t382.length co27] 27 (0, 0)) (by refine bs_ ?_; refine blk_far ?_ NB386_398.out _; refine bs_ ?_; refine blk_far ?_ NB386_398.out _; refine bs_ ?_; exact BK386.out) hb); replace BK398 := mk_ (blk_below (g := gb398) (o := .cells #[.int .i64 t393, .slice Ao36 t394.length co36] 27 (0, 0)) (by refine bs_ ?_; refine blk_put (cs := #[.int .i64 t393, .slice none 0 0]) ?_ 1 _ rfl; refine bs_ ?_; refine blk_put (cs := #[.int .i64 0, .slice none 0 0]) ?_ 0 _ rfl; refine bs_ ?_; exact BK398.out) hb); replace HB := mk_ (below_step (at_ HB.out) hb); (try clear HO377 HO380); (try clear hb); (try clear hb2); (try clear hk); (try clear hi)))
   go_meet
   case rel => exact ⟨_, ((t397 != t385)), sm_, H', ⟨by first | omega | exact Nat.le_refl _⟩, ⟨Kd.S_below (Kd.S_mono HO389.out (fun _ hk => hk.2)) lt_⟩, ⟨Kd.R_below (Kd.R_mono HO392.out (fun _ hk => trivial)) lt_⟩, ⟨Kd.R_below (Kd.R_mono HO384.out (fun _ hk => hk.2)) lt_⟩, ⟨Kd.R_below (Kd.R_mono HO396.out (fun _ hk => hk.2)) lt_⟩, ⟨by refine bs_ ?_; exact BK386.out⟩, ⟨by refine bs_ ?_; exact BK398.out⟩, ⟨at_ HB.out⟩⟩
  replace c38 := Bool.eq_false_iff.mpr c38
  subst c38
  rw [if_neg Bool.false_ne_true] at H
  have H' := mk_ H
  clear H
  have hnb43 := NB398_386.out
  have hnc43 := NB386_398.out
  have hcz44_0 := blk_cell BK398.out 0
  have hcz44_1 := blk_cell BK398.out 1
  have hfz44_0 := blk_frozen BK398.out 0
  have hfz44_1 := blk_frozen BK398.out 1
  have hcz45_0 := blk_cell BK386.out 0
  have hcz45_1 := blk_cell BK386.out 1
  have hfz45_0 := blk_frozen BK386.out 0
  have hfz45_1 := blk_frozen BK386.out 1
  go_wp2_with (first | ((with_reducible refine gate_callee (f := 21) rfl ?_); refine goesL_ (some 58) rfl rfl Tryd.func21 (by kernel_rfl) rfl #[.agg #[.int .i64 t393, .slice Ao36 t394.length co36], .agg #[.int .i64 t381, .slice Ao27 t382.length co27]] rfl gl_ ?_; (with_reducible refine (laws_eqProof.calls k t393 _ _ t394 t381 _ _ t382 false _ ?side1 ?side2 ?side3 ?side4 A37.out).mono ?_); (case side1 => refine (Kd.R_reads' (e := 68) (base := w.heap.size) (ok := fun k_ => (True ∧ some k_ ≠ (.slice Ao27 t382.length co27 : Value).ownBlock)) (n := t394.length) (c := co36) ?_).2.2; exact (by (with_reducible repeat (first | apply Kd.R_alloc | apply Kd.R_drewN | apply Kd.R_drew)); exact (Kd.R_mono (Kd.R_far (p := ⟨gb398, 1, none⟩) (Kd.R_far (p := ⟨gb398, 0, none⟩) (Kd.R_types HO396.out BK398.out (by decide)) (fun _ hk => hk.2) (.int .i64 t393)) (fun _ hk => hk.2) (.slice Ao36 t394.length co36)) (fun _ h_ => h_.1)))); (case side2 => exact (Kd.R_reads' HO396.out).2.1); (case side3 => refine (Kd.R_reads' (e := 68) (base := w.heap.size) (ok := fun k_ => (True ∧ some k_ ≠ (.slice Ao36 t394.length co36 : Value).ownBlock)) (n := t382.length) (c := co27) ?_).2.2; exact (by (with_reducible repeat (first | apply Kd.R_alloc | apply Kd.R_drewN | apply Kd.R_drew)); exact (Kd.R_mono (Kd.R_far (p := ⟨gb398, 1, none⟩) (Kd.R_far (p := ⟨gb398, 0, none⟩) (Kd.R_types HO384.out BK398.out (by decide)) (fun _ hk => hk.2) (.int .i64 t393)) (fun _ hk => hk.2) (.slice Ao36 t394.length co36)) (fun _ h_ => h_.1)))); (case side4 => exact (Kd.R_reads' HO384.out).2.1); rintro e w46 ⟨rfl, hb⟩; refine ⟨_, rfl, ?_⟩; replace HO384 := mk_ (Kd.R_below (by (with_reducible repeat (first | apply Kd.R_alloc | apply Kd.R_drewN | apply Kd.R_drew)); exact (Kd.R_mono (Kd.R_far (p := ⟨gb398, 1, none⟩) (Kd.R_far (p := ⟨gb398, 0, none⟩) (Kd.R_types HO384.out BK398.out (by decide)) (fun _ hk => hk.2) (.int .i64 t393)) (fun _ hk => hk.2) (.slice Ao36 t394.length co36)) (fun _ h_ => h_.1))) hb); replace HO389 := mk_ (Kd.S_below (by (with_reducible repeat (first | apply Kd.S_alloc | apply Kd.S_drewN | apply Kd.S_drew)); exact (Kd.S_mono (Kd.S_far (p := ⟨gb398, 1, none⟩) (Kd.S_far (p := ⟨gb398, 0, none⟩) (Kd.S_types HO389.out BK398.out (by decide)) (fun _ hk => hk.2) (.int .i64 t393)) (fun _ hk => hk.2) (.slice Ao36 t394.length co36)) (fun _ h_ => h_.1))) hb); replace HO392 := mk_ (Kd.R_below (by (with_reducible repeat (first | apply Kd.R_alloc | apply Kd.R_drewN | apply Kd.R_drew)); exact (Kd.R_mono (Kd.R_far (p := ⟨gb398, 1, none⟩) (Kd.R_far (p := ⟨gb398, 0, none⟩) (Kd.R_types HO392.out BK398.out (by decide)) (fun _ hk => hk.2) (.int .i64 t393)) (fun _ hk => hk.2) (.slice Ao36 t394.length co36)) (fun _ h_ => h_.1))) hb); replace HO396 := mk_ (Kd.R_below (by (with_reducible repeat (first | apply Kd.R_alloc | apply Kd.R_drewN | apply Kd.R_drew)); exact (Kd.R_mono (Kd.R_far (p := ⟨gb398, 1, none⟩) (Kd.R_far (p := ⟨gb398, 0, none⟩) (Kd.R_types HO396.out BK398.out (by decide)) (fun _ hk => hk.2) (.int .i64 t393)) (fun _ hk => hk.2) (.slice Ao36 t394.length co36)) (fun _ h_ => h_.1))) hb); replace BK386 := mk_ (blk_below (g := gb386) (o := .cells #[.int .i64 t381, .slice Ao27 t382.length co27] 27 (0, 0)) (by refine bs_ ?_; refine blk_far ?_ NB386_398.out _; refine bs_ ?_; refine blk_far ?_ NB386_398.out _; refine bs_ ?_; exact BK386.out) hb); replace BK398 := mk_ (blk_below (g := gb398) (o := .cells #[.int .i64 t393, .slice Ao36 t394.length co36] 27 (0, 0)) (by refine bs_ ?_; refine blk_put (cs := #[.int .i64 t393, .slice none 0 0]) ?_ 1 _ rfl; refine bs_ ?_; refine blk_put (cs := #[.int .i64 0, .slice none 0 0]) ?_ 0 _ rfl; refine bs_ ?_; exact BK398.out) hb); replace HB := mk_ (below_step (at_ HB.out) hb); (try clear HO377 HO380); (try clear hb); (try clear hb2); (try clear hk); (try clear hi)))
  go_meet
  case rel => exact ⟨_, (true), sm_, H', ⟨by first | omega | exact Nat.le_refl _⟩, ⟨Kd.S_below (Kd.S_mono HO389.out (fun _ hk => hk.2)) lt_⟩, ⟨Kd.R_below (Kd.R_mono HO392.out (fun _ hk => trivial)) lt_⟩, ⟨Kd.R_below (Kd.R_mono HO384.out (fun _ hk => hk.2)) lt_⟩, ⟨Kd.R_below (Kd.R_mono HO396.out (fun _ hk => hk.2)) lt_⟩, ⟨by refine bs_ ?_; exact BK386.out⟩, ⟨by refine bs_ ?_; exact BK398.out⟩, ⟨at_ HB.out⟩⟩
 clear HC18
 try clear c1
 try clear c2
 try clear p2
 try clear c3
 try clear c4
 try clear c5
 try clear c5b0
 try clear c5b1
 try clear c7
 try clear c7b0
 try clear c10
 try clear c10b0
 try clear c12
 try clear c13
 try clear c14
 try clear c16
 try clear c17
 try clear c21
 try clear c22
 try clear c34
 try clear c38
 try clear c39
 try clear c43
 try clear hcz26_0
 try clear hcz26_1
 try clear hcz35_0
 try clear hcz35_1
 try clear hcz40_0
 try clear hcz40_1
 try clear hcz41_0
 try clear hcz41_1
 try clear hcz44_0
 try clear hcz44_1
 try clear hcz45_0
 try clear hcz45_1
 try clear hfz26_0
 try clear hfz26_1
 try clear hfz35_0
 try clear hfz35_1
 try clear hfz40_0
 try clear hfz40_1
 try clear hfz41_0
 try clear hfz41_1
 try clear hfz44_0
 try clear hfz44_1
 try clear hfz45_0
 try clear hfz45_1
 obtain ⟨kq, x64_17, rfl, HA, HJ17, HO_12, HO_13, HO_387001, HO_399001, BK386, BK398, HB⟩ := hcut
 cases kq with
 | zero => exact absurd HA.out (by simp [laws_FnExactReadProof.j0])
 | succ kj17 =>
  have H := HA.out
  clear HA
  simp only [laws_FnExactReadProof.j0] at H
  by_cases c47 : x64_17 = true
  ·subst c47
   rw [if_pos rfl] at H
   cases H
  replace c47 := Bool.eq_false_iff.mpr c47
  subst c47
  rw [if_neg Bool.false_ne_true] at H
  replace H := Option.bind_eq_some_iff.mp H
  obtain ⟨t400, A480, H⟩ := H
  try dsimp only at H
  have A48 := mk_ A480
  clear A480
  replace H := Option.bind_eq_some_iff.mp H
  obtain ⟨t403, A490, H⟩ := H
  try dsimp only at H
  have A49 := mk_ A490
  clear A490
  by_cases c50 : t403 = true
  rotate_left
  ·replace c50 := Bool.eq_false_iff.mpr c50
   subst c50
   rw [if_neg Bool.false_ne_true] at H
   cases H
  subst c50
  rw [if_pos rfl] at H
  replace H := Option.bind_eq_some_iff.mp H
  obtain ⟨t404, A510, H⟩ := H
  try dsimp only at H
  have A51 := mk_ A510
  clear A510
  replace H := Option.bind_eq_some_iff.mp H
  obtain ⟨t407, A520, H⟩ := H
  try dsimp only at H
  have A52 := mk_ A520
  clear A520
  by_cases c53 : t407 = true
  rotate_left
  ·replace c53 := Bool.eq_false_iff.mpr c53
   subst c53
   rw [if_neg Bool.false_ne_true] at H
   cases H
  subst c53
  rw [if_pos rfl] at H
  replace H := Option.bind_eq_some_iff.mp H
  obtain ⟨⟨t408, tM⟩, A540, H⟩ := H
  try dsimp only at H
  have A54 := mk_ A540
  clear A540
  replace H := Option.bind_eq_some_iff.mp H
  obtain ⟨⟨t409, t410⟩, A550, H⟩ := H
  try dsimp only at H
  have A55 := mk_ A550
  clear A550
  have HC56 := mk_ H
  clear H
  go_upto_region 23 with (first | ((with_reducible refine gate_callee (f := 16) rfl ?_); refine goesL_ (some 67) rfl rfl Tryd.func16 (by kernel_rfl) rfl #[.slice A1 l1.length c1] rfl gl_ ?_; (with_reducible refine (laws_toClaimS.calls kj17 _ _ l1 t400 _ ?side1 ?side2 A48.out).mono ?_); (case side1 => exact Kd.C_below (Kd.C_below HR1.out HB.out) lt_); (case side2 => exact HC1.out); rintro e w57 ⟨v401, rfl, ho0, hb⟩; refine ⟨_, rfl, ?_⟩; replace HO_387001 := mk_ (Kd.R_below (Kd.R_below HO_387001.out lt_) hb); replace HO_399001 := mk_ (Kd.R_below (Kd.R_below HO_399001.out lt_) hb); have HO402 := mk_ (Kd.S_lower (Kd.S_new' (Kd.S_new' ho0 (Kd.S_lt (Kd.S_below HO_12.out lt_))) (Kd.R_lt (Kd.R_below HO_13.out lt_))) (below_size (at_ HB.out))); replace HO_12 := mk_ (Kd.S_elder' (Kd.S_below HO_12.out lt_) (Kd.S_base ho0) hb); replace HO_13 := mk_ (Kd.R_below (Kd.R_below HO_13.out lt_) hb); replace BK386 := mk_ (blk_at BK386.out hb); replace BK398 := mk_ (blk_at BK398.out hb); replace HB := mk_ (below_step (at_ HB.out) hb); (try clear hb); (try clear hb2); (try clear hk); (try clear hi); (try clear ho0); obtain ⟨Ao58, co58, eo58⟩ := Kd.S_slice HO402.out; subst eo58) | ((with_reducible refine gate_callee (f := 19) rfl ?_); refine goesL_ (some 68) rfl rfl Tryd.func19 (by kernel_rfl) rfl #[.slice Ao30 t387.length co30, .slice Ao58 t400.length co58] rfl gl_ ?_; (with_reducible refine (laws_eqClaimS.calls kj17 _ _ t387 _ _ t400 true _ ?side1 ?side2 ?side3 ?side4 A49.out).mono ?_); (case side1 => exact Kd.C_below (Kd.S_reads' HO_12.out).2.2 lt_); (case side2 => exact (Kd.S_reads' HO_12.out).2.1); (case side3 => exact Kd.C_below (Kd.S_reads' HO402.out).2.2 lt_); (case side4 => exact (Kd.S_reads' HO402.out).2.1); rintro e w59 ⟨rfl, hb⟩; refine ⟨_, rfl, ?_⟩; replace HO_12 := mk_ (Kd.S_below (Kd.S_below HO_12.out lt_) hb); replace HO_13 := mk_ (Kd.R_below (Kd.R_below HO_13.out lt_) hb); replace HO_387001 := mk_ (Kd.R_below (Kd.R_below HO_387001.out lt_) hb); replace HO_399001 := mk_ (Kd.R_below (Kd.R_below HO_399001.out lt_) hb); replace BK386 := mk_ (blk_at BK386.out hb); replace BK398 := mk_ (blk_at BK398.out hb); replace HB := mk_ (below_step (at_ HB.out) hb); (try clear HO402); (try clear hb); (try clear hb2); (try clear hk); (try clear hi)) | ((with_reducible refine gate_callee (f := 17) rfl ?_); refine goesL_ (some 72) rfl rfl Tryd.func17 (by kernel_rfl) rfl #[.slice A2 l2.length c2] rfl gl_ ?_; (with_reducible refine (laws_toMarkS.calls kj17 _ _ l2 t404 _ ?side1 ?side2 A51.out).mono ?_); (case side1 => exact Kd.C_below (Kd.C_below HR2.out HB.out) lt_); (case side2 => exact HC2.out); rintro e w60 ⟨v405, rfl, ho0, hb⟩; refine ⟨_, rfl, ?_⟩; replace HO_12 := mk_ (Kd.S_elder' (Kd.S_below HO_12.out lt_) (Kd.R_base ho0) hb); replace HO_387001 := mk_ (Kd.R_below (Kd.R_below HO_387001.out lt_) hb); replace HO_399001 := mk_ (Kd.R_below (Kd.R_below HO_399001.out lt_) hb); have HO406 := mk_ (Kd.R_lower (Kd.R_new' ho0 (Kd.R_lt (Kd.R_below HO_13.out lt_))) (below_size (at_ HB.out))); replace HO_13 := mk_ (Kd.R_elder' (Kd.R_below HO_13.out lt_) (Kd.R_base ho0) hb); replace BK386 := mk_ (blk_at BK386.out hb); replace BK398 := mk_ (blk_at BK398.out hb); replace HB := mk_ (below_step (at_ HB.out) hb); (try clear HO402); (try clear hb); (try clear hb2); (try clear hk); (try clear hi); (try clear ho0); obtain ⟨Ao61, co61, eo61⟩ := Kd.R_slice HO406.out; subst eo61) | ((with_reducible refine gate_callee (f := 20) rfl ?_); refine goesL_ (some 73) rfl rfl Tryd.func20 (by kernel_rfl) rfl #[.slice Ao31 t390.length co31, .slice Ao61 t404.length co61] rfl gl_ ?_; (with_reducible refine (laws_eqMarkS.calls kj17 _ _ t390 _ _ t404 true _ ?side1 ?side2 ?side3 ?side4 A52.out).mono ?_); (case side1 => exact Kd.C_below (Kd.R_reads' HO_13.out).2.2 lt_); (case side2 => exact (Kd.R_reads' HO_13.out).2.1); (case side3 => exact Kd.C_below (Kd.R_reads' HO406.out).2.2 lt_); (case side4 => exact (Kd.R_reads' HO406.out).2.1); rintro e w62 ⟨rfl, hb⟩; refine ⟨_, rfl, ?_⟩; replace HO_12 := mk_ (Kd.S_below (Kd.S_below HO_12.out lt_) hb); replace HO_13 := mk_ (Kd.R_below (Kd.R_below HO_13.out lt_) hb); replace HO_387001 := mk_ (Kd.R_below (Kd.R_below HO_387001.out lt_) hb); replace HO_399001 := mk_ (Kd.R_below (Kd.R_below HO_399001.out lt_) hb); replace BK386 := mk_ (blk_at BK386.out hb); replace BK398 := mk_ (blk_at BK398.out hb); replace HB := mk_ (below_step (at_ HB.out) hb); (try clear HO402 HO406); (try clear hb); (try clear hb2); (try clear hk); (try clear hi)) | ((with_reducible refine gate_callee (f := 23) rfl ?_); refine goesL_ (some 77) rfl rfl Tryd.func23 (by kernel_rfl) rfl #[.slice Ao30 t387.length co30, .int .i64 1] rfl gl_ ?_; (with_reducible refine (markC_at (w0 := w) (ok := fun k_ => some k_ ≠ (.slice Ao31 t390.length co31 : Value).ownBlock) kj17 ?side1 ?side2 A54.out).mono ?_); (case side1 => exact at_ HB.out); (case side2 => exact Kd.S_mono HO_12.out (fun k_ h_ => by first | exact h_ | exact h_.1 | exact h_.1.1 | exact h_.1.1.1)); rintro e wM ⟨rfl, hbM, hkM⟩; refine ⟨_, rfl, ?_⟩; replace HO_13 := mk_ (R_sameT rfl HO_13.out hkM); replace HO_387001 := mk_ (R_otherT rfl HO_387001.out hkM (by decide)); replace HO_399001 := mk_ (R_otherT rfl HO_399001.out hkM (by decide)); replace BK386 := mk_ (blk_otherT (bk_ BK386.out) hkM (by decide)); replace BK398 := mk_ (blk_otherT (bk_ BK398.out) hkM (by decide)); replace HB := mk_ hbM; (try clear hbM); (try clear hkM)) | ((with_reducible refine gate_callee (f := 24) rfl ?_); refine goesL_ (some 80) rfl rfl Tryd.func24 (by kernel_rfl) rfl #[.slice Ao31 t390.length co31, .int .i64 t408] rfl gl_ ?_; (with_reducible refine (laws_markMarkS.calls kj17 (fun k_ => some k_ = (.slice Ao31 t390.length co31 : Value).ownBlock) (.slice Ao31 t390.length co31) t390 t408 t409 t410 w _ ?side1 ?side2 A55.out).mono ?_); (case side1 => exact at_ HB.out); (case side2 => exact Kd.R_tight rfl HO_13.out); rintro e w64 ⟨rfl, hy0, hb, hkp⟩; refine ⟨_, rfl, ?_⟩; replace HO_387001 := mk_ (Kd.R_mono (ok' := fun k_ => some k_ ≠ (.slice Ao36 t394.length co36 : Value).ownBlock) (Kd.R_keptB ((Kd.R_apart' HO_387001.out (Kd.R_typed HO_13.out) (by decide))) hkp (fun k_ hk_ hs_ => (hk_.2) hs_)) (fun k_ hk_ => hk_.1.1)); replace HO_399001 := mk_ (Kd.R_mono (ok' := fun k_ => some k_ ≠ (.slice Ao27 t382.length co27 : Value).ownBlock) (Kd.R_keptB ((Kd.R_apart' HO_399001.out (Kd.R_typed HO_13.out) (by decide))) hkp (fun k_ hk_ hs_ => (hk_.2) hs_)) (fun k_ hk_ => hk_.1.1)); replace BK386 := mk_ (blk_kept (bk_ BK386.out) hkp (fun hs_ => (fun e_ => (Kd.R_ne HO_13.out BK386.out (by decide)) e_) hs_)); replace BK398 := mk_ (blk_kept (bk_ BK398.out) hkp (fun hs_ => (fun e_ => (Kd.R_ne HO_13.out BK398.out (by decide)) e_) hs_)); replace HB := mk_ (hb); (try clear HO_12 HO_13 HO402 HO406); (try clear hb); (try clear hkp); (try clear hy0)))
  (try simp only [Act.put, z0_, z1_, z2_])
  go_cut [93] (fun v93 wc => ∃ (kq : Nat) (x93_55 : Bool), v93 = .bool x93_55 ∧ Aside0 (laws_FnExactReadProof.j1 kq a0 l1 l2 a3 t385 x93_55 t381 t382 t393 t394 = some true) ∧ Aside0 (kq ≤ kj17) ∧ Aside0 (Kd.R k68 68 wc w.heap.size (fun k_ => some k_ ≠ ((.slice Ao36 t394.length co36) : Value).ownBlock) (.slice Ao27 t382.length co27) t382) ∧ Aside0 (Kd.R k68 68 wc w.heap.size (fun k_ => some k_ ≠ ((.slice Ao27 t382.length co27) : Value).ownBlock) (.slice Ao36 t394.length co36) t394) ∧ Aside0 (wc.heap[gb386]? = some (.cells #[.int .i64 t381, (.slice Ao27 t382.length co27)] 27 (0, 0))) ∧ Aside0 (wc.heap[gb398]? = some (.cells #[.int .i64 t393, (.slice Ao36 t394.length co36)] 27 (0, 0))) ∧ Aside0 (Below w.heap.size w wc))
  case first =>
   have H := HC56.out
   clear HC56
   by_cases c65 : t409 < 0
   ·rw [if_pos c65] at H
    have c65b0 : decide (t409 < 0) = true := decide_eq_true c65
    clear c65
    (first | rw [c65b0] | (simp only [i64_w, i32_w]; rw [c65b0]) | skip)
    have H' := mk_ H
    clear H
    go_wp2
    go_meet
    case rel => exact ⟨_, (true), sm_, H', ⟨by have := HJ17.out; first | omega | exact Nat.le_refl _⟩, ⟨Kd.R_below HO_387001.out lt_⟩, ⟨Kd.R_below HO_399001.out lt_⟩, ⟨by refine bs_ ?_; exact BK386.out⟩, ⟨by refine bs_ ?_; exact BK398.out⟩, ⟨at_ HB.out⟩⟩
   rw [if_neg c65] at H
   have c65b0 : decide (t409 < 0) = false := decide_eq_false c65
   clear c65
   (first | rw [c65b0] | (simp only [i64_w, i32_w]; rw [c65b0]) | skip)
   replace H := Option.bind_eq_some_iff.mp H
   obtain ⟨t411, A660, H⟩ := H
   try dsimp only at H
   have A66 := mk_ A660
   clear A660
   by_cases c67 : t411 = true
   ·subst c67
    rw [if_pos rfl] at H
    have H' := mk_ H
    clear H
    have hnb68 := NB398_386.out
    have hnc68 := NB386_398.out
    have hcz69_0 := blk_cell BK398.out 0
    have hcz69_1 := blk_cell BK398.out 1
    have hfz69_0 := blk_frozen BK398.out 0
    have hfz69_1 := blk_frozen BK398.out 1
    have hcz70_0 := blk_cell BK386.out 0
    have hcz70_1 := blk_cell BK386.out 1
    have hfz70_0 := blk_frozen BK386.out 0
    have hfz70_1 := blk_frozen BK386.out 1
    go_wp2_with (first | (go_at_call 21; (with_reducible refine (laws_eqProof.calls kj17 t393 _ _ t394 t381 _ _ t382 true _ ?side1 ?side2 ?side3 ?side4 A66.out).mono ?_); (case side1 => exact Kd.C_below (Kd.R_reads' HO_399001.out).2.2 lt_); (case side2 => exact (Kd.R_reads' HO_399001.out).2.1); (case side3 => exact Kd.C_below (Kd.R_reads' HO_387001.out).2.2 lt_); (case side4 => exact (Kd.R_reads' HO_387001.out).2.1); rintro e w71 ⟨rfl, hb⟩; replace HO_387001 := mk_ (Kd.R_below (Kd.R_below HO_387001.out lt_) hb); replace HO_399001 := mk_ (Kd.R_below (Kd.R_below HO_399001.out lt_) hb); replace BK386 := mk_ (blk_at BK386.out hb); replace BK398 := mk_ (blk_at BK398.out hb); replace HB := mk_ (below_step (at_ HB.out) hb); (try clear HO_12 HO_13 HO402 HO406); (try clear hb); (try clear hb2); (try clear hk); (try clear hi)))
    go_meet
    case rel => exact ⟨_, ((t397 != t385)), sm_, H', ⟨by have := HJ17.out; first | omega | exact Nat.le_refl _⟩, ⟨Kd.R_below HO_387001.out lt_⟩, ⟨Kd.R_below HO_399001.out lt_⟩, ⟨by refine bs_ ?_; exact BK386.out⟩, ⟨by refine bs_ ?_; exact BK398.out⟩, ⟨at_ HB.out⟩⟩
   replace c67 := Bool.eq_false_iff.mpr c67
   subst c67
   rw [if_neg Bool.false_ne_true] at H
   have H' := mk_ H
   clear H
   have hnb72 := NB398_386.out
   have hnc72 := NB386_398.out
   have hcz73_0 := blk_cell BK398.out 0
   have hcz73_1 := blk_cell BK398.out 1
   have hfz73_0 := blk_frozen BK398.out 0
   have hfz73_1 := blk_frozen BK398.out 1
   have hcz74_0 := blk_cell BK386.out 0
   have hcz74_1 := blk_cell BK386.out 1
   have hfz74_0 := blk_frozen BK386.out 0
   have hfz74_1 := blk_frozen BK386.out 1
   go_wp2_with (first | (go_at_call 21; (with_reducible refine (laws_eqProof.calls kj17 t393 _ _ t394 t381 _ _ t382 false _ ?side1 ?side2 ?side3 ?side4 A66.out).mono ?_); (case side1 => exact Kd.C_below (Kd.R_reads' HO_399001.out).2.2 lt_); (case side2 => exact (Kd.R_reads' HO_399001.out).2.1); (case side3 => exact Kd.C_below (Kd.R_reads' HO_387001.out).2.2 lt_); (case side4 => exact (Kd.R_reads' HO_387001.out).2.1); rintro e w75 ⟨rfl, hb⟩; replace HO_387001 := mk_ (Kd.R_below (Kd.R_below HO_387001.out lt_) hb); replace HO_399001 := mk_ (Kd.R_below (Kd.R_below HO_399001.out lt_) hb); replace BK386 := mk_ (blk_at BK386.out hb); replace BK398 := mk_ (blk_at BK398.out hb); replace HB := mk_ (below_step (at_ HB.out) hb); (try clear HO_12 HO_13 HO402 HO406); (try clear hb); (try clear hb2); (try clear hk); (try clear hi)))
   go_meet
   case rel => exact ⟨_, (true), sm_, H', ⟨by have := HJ17.out; first | omega | exact Nat.le_refl _⟩, ⟨Kd.R_below HO_387001.out lt_⟩, ⟨Kd.R_below HO_399001.out lt_⟩, ⟨by refine bs_ ?_; exact BK386.out⟩, ⟨by refine bs_ ?_; exact BK398.out⟩, ⟨at_ HB.out⟩⟩
  clear HC56
  try clear c1
  try clear c2
  try clear p2
  try clear c3
  try clear c4
  try clear c5
  try clear c5b0
  try clear c5b1
  try clear c6
  try clear c7
  try clear c7b0
  try clear c10
  try clear c10b0
  try clear c12
  try clear c13
  try clear c14
  try clear c16
  try clear c17
  try clear c19
  try clear c20
  try clear c21
  try clear c22
  try clear c23
  try clear c24
  try clear c34
  try clear c38
  try clear c39
  try clear c43
  try clear c47
  try clear c50
  try clear c53
  try clear c65
  try clear c65b0
  try clear c67
  try clear c68
  try clear c72
  try clear hcz26_0
  try clear hcz26_1
  try clear hcz35_0
  try clear hcz35_1
  try clear hcz40_0
  try clear hcz40_1
  try clear hcz41_0
  try clear hcz41_1
  try clear hcz44_0
  try clear hcz44_1
  try clear hcz45_0
  try clear hcz45_1
  try clear hcz69_0
  try clear hcz69_1
  try clear hcz70_0
  try clear hcz70_1
  try clear hcz73_0
  try clear hcz73_1
  try clear hcz74_0
  try clear hcz74_1
  try clear hfz26_0
  try clear hfz26_1
  try clear hfz35_0
  try clear hfz35_1
  try clear hfz40_0
  try clear hfz40_1
  try clear hfz41_0
  try clear hfz41_1
  try clear hfz44_0
  try clear hfz44_1
  try clear hfz45_0
  try clear hfz45_1
  try clear hfz69_0
  try clear hfz69_1
  try clear hfz70_0
  try clear hfz70_1
  try clear hfz73_0
  try clear hfz73_1
  try clear hfz74_0
  try clear hfz74_1
  try clear p2
  obtain ⟨kq, x93_55, rfl, HA, HJ55, HO_387001, HO_399001, BK386, BK398, HB⟩ := hcut
  cases kq with
  | zero => exact absurd HA.out (by simp [laws_FnExactReadProof.j1])
  | succ kj55 =>
   have H := HA.out
   clear HA
   simp only [laws_FnExactReadProof.j1] at H
   by_cases c76 : x93_55 = true
   ·subst c76
    rw [if_pos rfl] at H
    cases H
   replace c76 := Bool.eq_false_iff.mpr c76
   subst c76
   rw [if_neg Bool.false_ne_true] at H
   replace H := Option.bind_eq_some_iff.mp H
   obtain ⟨⟨t412, t413⟩, A770, H⟩ := H
   try dsimp only at H
   have A77 := mk_ A770
   clear A770
   replace H := Option.bind_eq_some_iff.mp H
   obtain ⟨t414, A780, H⟩ := H
   try dsimp only at H
   have A78 := mk_ A780
   clear A780
   by_cases c79 : t414 < 0
   ·rw [if_pos c79] at H
    have c79b0 : decide (t414 < 0) = true := decide_eq_true c79
    clear c79
    cases H
   rw [if_neg c79] at H
   have c79b0 : decide (t414 < 0) = false := decide_eq_false c79
   clear c79
   by_cases c85 : t414 = t412
   rotate_left
   ·rw [if_neg c85] at H
    have c85b0 : (t414 == t412) = false := beq_eq_false_iff_ne.mpr c85
    have c85b1 : (t414 != t412) = true := bne_iff_ne.mpr c85
    cases H
   rw [if_pos c85] at H
   have c85b0 : (t414 == t412) = true := beq_iff_eq.mpr c85
   have c85b1 : (t414 != t412) = false := bne_eq_false_iff_eq.mpr c85
   clear c85
   replace H := Option.bind_eq_some_iff.mp H
   obtain ⟨t415, A860, H⟩ := H
   try dsimp only at H
   have A86 := mk_ A860
   clear A860
   replace H := Option.bind_eq_some_iff.mp H
   obtain ⟨t418, A870, H⟩ := H
   try dsimp only at H
   have A87 := mk_ A870
   clear A870
   replace H := Option.bind_eq_some_iff.mp H
   obtain ⟨⟨t421, t422, t425⟩, A880, H⟩ := H
   try dsimp only at H
   have A88 := mk_ A880
   clear A880
   have HC89 := mk_ H
   clear H
   have hnb90 := NB398_386.out
   have hnc90 := NB386_398.out
   have hcz91_0 : wc.cell? ⟨gb398, 0, none⟩ = some (.int .i64 t393) := (blk_cell BK398.out 0).trans rfl
   have hcz91_1 : wc.cell? ⟨gb398, 1, none⟩ = some (.slice Ao36 t394.length co36) := (blk_cell BK398.out 1).trans rfl
   have hfz91_0 := blk_frozen BK398.out 0
   have hfz91_1 := blk_frozen BK398.out 1
   go_upto_region 34 with (first | ((with_reducible refine gate_callee (f := 25) rfl ?_); refine goesL_ (some 96) rfl rfl Tryd.func25 (by kernel_rfl) rfl #[.agg #[.int .i64 t393, .slice Ao36 t394.length co36], .int .i64 1] rfl gl_ ?_; (with_reducible refine (laws_markProof.calls kj55 t393 (fun k_ => some k_ = (.slice Ao36 t394.length co36 : Value).ownBlock) (.slice Ao36 t394.length co36) t394 1 t412 t413 w _ ?side1 ?side2 A77.out).mono ?_); (case side1 => exact at_ HB.out); (case side2 => exact Kd.R_tight rfl HO_399001.out); rintro e w92 ⟨rfl, hy0, hb, hkp⟩; refine ⟨_, rfl, ?_⟩; replace HO_387001 := mk_ (Kd.R_mono (ok' := fun k_ => some k_ ≠ (.slice Ao36 t394.length co36 : Value).ownBlock) (Kd.R_keptB (HO_387001.out) hkp (fun k_ hk_ hs_ => (hk_) hs_)) (fun k_ hk_ => hk_.1)); replace BK386 := mk_ (blk_kept (bk_ BK386.out) hkp (fun hs_ => (fun e_ => (Kd.R_ne HO_399001.out BK386.out (by decide)) e_) hs_)); replace BK398 := mk_ (blk_kept (bk_ BK398.out) hkp (fun hs_ => (fun e_ => (Kd.R_ne HO_399001.out BK398.out (by decide)) e_) hs_)); replace HO_399001 := mk_ (Kd.R_reok rfl hy0 (fun k_ e_ => HO_399001.out.1 k_ e_)); replace HB := mk_ (hb); (try clear hb); (try clear hkp); (try clear hy0); have hcz93_0 := blk_cell BK398.out 0; have hcz93_1 := blk_cell BK398.out 1; have hfz93_0 := blk_frozen BK398.out 0; have hfz93_1 := blk_frozen BK398.out 1) | ((with_reducible refine gate_callee (f := 26) rfl ?_); refine goesL_ (some 99) rfl rfl Tryd.func26 (by kernel_rfl) rfl #[.agg #[.int .i64 t393, .slice Ao36 t413.length co36], .int .i64 1] rfl (by (try simp only [List.map_toArray, List.map_cons, List.map_nil]); first | done | (rw [show t413.length = t394.length from (Kd.R_reads' HO_399001.out).1.symm] <;> rfl) | rfl | (simp only [List.length_drop, List.length_take]; rfl)) ?_; (with_reducible refine (laws_heldProof.calls kj55 t393 _ _ t413 1 t414 _ ?side1 ?side2 A78.out).mono ?_); (case side1 => exact Kd.C_below (Kd.R_reads' HO_399001.out).2.2 lt_); (case side2 => rw [show t413.length = t394.length from (Kd.R_reads' HO_399001.out).1.symm]; exact (Kd.R_reads' HO_399001.out).2.1); rintro e w94 ⟨rfl, hb⟩; refine ⟨_, rfl, ?_⟩; replace HO_387001 := mk_ (Kd.R_below (Kd.R_below HO_387001.out lt_) hb); replace HO_399001 := mk_ (Kd.R_below (Kd.R_below HO_399001.out lt_) hb); replace BK386 := mk_ (blk_at BK386.out hb); replace BK398 := mk_ (blk_at BK398.out hb); replace HB := mk_ (below_step (at_ HB.out) hb); (try clear hb); (try clear hb2); (try clear hk); (try clear hi)) | ((with_reducible refine gate_callee (f := 16) rfl ?_); refine goesL_ (some 108) rfl rfl Tryd.func16 (by kernel_rfl) rfl #[.slice A1 l1.length c1] rfl gl_ ?_; (with_reducible refine (laws_toClaimS.calls kj55 _ _ l1 t415 _ ?side1 ?side2 A86.out).mono ?_); (case side1 => exact Kd.C_below (Kd.C_below HR1.out HB.out) lt_); (case side2 => exact HC1.out); rintro e w95 ⟨v416, rfl, ho0, hb⟩; refine ⟨_, rfl, ?_⟩; replace HO_387001 := mk_ (Kd.R_below (Kd.R_below HO_387001.out lt_) hb); replace HO_399001 := mk_ (Kd.R_below (Kd.R_below HO_399001.out lt_) hb); have HO417 := mk_ (Kd.S_lower ho0 (below_size (at_ HB.out))); replace BK386 := mk_ (blk_at BK386.out hb); replace BK398 := mk_ (blk_at BK398.out hb); replace HB := mk_ (below_step (at_ HB.out) hb); (try clear hb); (try clear hb2); (try clear hk); (try clear hi); (try clear ho0)) | ((with_reducible refine gate_callee (f := 17) rfl ?_); refine goesL_ (some 110) rfl rfl Tryd.func17 (by kernel_rfl) rfl #[.slice A2 l2.length c2] rfl gl_ ?_; (with_reducible refine (laws_toMarkS.calls kj55 _ _ l2 t418 _ ?side1 ?side2 A87.out).mono ?_); (case side1 => exact Kd.C_below (Kd.C_below HR2.out HB.out) lt_); (case side2 => exact HC2.out); rintro e w96 ⟨v419, rfl, ho0, hb⟩; refine ⟨_, rfl, ?_⟩; replace HO_387001 := mk_ (Kd.R_below (Kd.R_below HO_387001.out lt_) hb); replace HO_399001 := mk_ (Kd.R_below (Kd.R_below HO_399001.out lt_) hb); replace HO417 := mk_ (Kd.S_elder' (Kd.S_below HO417.out lt_) (Kd.R_base ho0) hb); have HO420 := mk_ (Kd.R_lower ho0 (below_size (at_ HB.out))); replace BK386 := mk_ (blk_at BK386.out hb); replace BK398 := mk_ (blk_at BK398.out hb); replace HB := mk_ (below_step (at_ HB.out) hb); (try clear hb); (try clear hb2); (try clear hk); (try clear hi); (try clear ho0); obtain ⟨Ao97, co97, eo97⟩ := Kd.S_slice HO417.out; subst eo97; obtain ⟨Ao98, co98, eo98⟩ := Kd.R_slice HO420.out; subst eo98) | ((with_reducible refine gate_callee (f := 12) rfl ?_); refine goesL_ (some 112) rfl rfl Tryd.func12 (by kernel_rfl) rfl #[.int .i64 a0, .slice Ao97 t415.length co97, .slice Ao98 t418.length co98, .string a3] rfl gl_ ?_; (with_reducible refine (impl_ReadProof.calls a0 _ _ t415 _ _ t418 a3 t421 t422 t425 _ ?side1 ?side2 ?side3 ?side4 A88.out).mono ?_); (case side1 => exact Kd.C_below (Kd.S_reads' HO417.out).2.2 lt_); (case side2 => exact (Kd.S_reads' HO417.out).2.1); (case side3 => exact Kd.C_below (Kd.R_reads' HO420.out).2.2 lt_); (case side4 => exact (Kd.R_reads' HO420.out).2.1); rintro e w99 ⟨v423, rfl, ho0, hb⟩; refine ⟨_, rfl, ?_⟩; have HO424 := mk_ (Kd.R_lower (Kd.R_new' (Kd.R_new' ho0 (Kd.R_lt (Kd.R_below HO_387001.out lt_))) (Kd.R_lt (Kd.R_below HO_399001.out lt_))) (below_size (at_ HB.out))); replace HO_387001 := mk_ (Kd.R_elder' (Kd.R_below HO_387001.out lt_) (Kd.R_base ho0) hb); replace HO_399001 := mk_ (Kd.R_elder' (Kd.R_below HO_399001.out lt_) (Kd.R_base ho0) hb); replace BK386 := mk_ (blk_at BK386.out hb); replace BK398 := mk_ (blk_at BK398.out hb); replace HB := mk_ (below_step (at_ HB.out) hb); (try clear HO417 HO420); (try clear hb); (try clear hb2); (try clear hk); (try clear hi); (try clear ho0)) | ((with_reducible refine gate_dst (N := 19) rfl ?_); refine bx_ 19 #[.int .i64 0, .slice none 0 0] 27 ?_; intro gb426 hg w100 hbox hb; replace HO_387001 := mk_ (Kd.R_below (Kd.R_below HO_387001.out lt_) hb); replace HO_399001 := mk_ (Kd.R_below (Kd.R_below HO_399001.out lt_) hb); replace HO424 := mk_ (Kd.R_below (Kd.R_below HO424.out lt_) hb); have BK426 := mk_ (hbox); have GW426 := mk_ ((by rw [hg]; exact (below_size (at_ HB.out)) : w.heap.size ≤ gb426)); have GE426 := mk_ ((by rw [hg]; exact (below_size (at_ HB.out)) : w.heap.size ≤ gb426)); replace HB := mk_ (below_step (at_ HB.out) hb); have NB386_426 := mk_ ((by rw [hg]; exact Nat.ne_of_lt (blk_lt (g := gb386) (o := .cells #[.int .i64 t381, .slice Ao27 t382.length co27] 27 (0, 0)) (bk_ BK386.out)) : gb386 ≠ gb426)); have NB426_386 := mk_ ((by rw [hg]; exact Nat.ne_of_gt (blk_lt (g := gb386) (o := .cells #[.int .i64 t381, .slice Ao27 t382.length co27] 27 (0, 0)) (bk_ BK386.out)) : gb426 ≠ gb386)); replace BK386 := mk_ (blk_at BK386.out hb); have NB398_426 := mk_ ((by rw [hg]; exact Nat.ne_of_lt (blk_lt (g := gb398) (o := .cells #[.int .i64 t393, .slice Ao36 t394.length co36] 27 (0, 0)) (bk_ BK398.out)) : gb398 ≠ gb426)); have NB426_398 := mk_ ((by rw [hg]; exact Nat.ne_of_gt (blk_lt (g := gb398) (o := .cells #[.int .i64 t393, .slice Ao36 t394.length co36] 27 (0, 0)) (bk_ BK398.out)) : gb426 ≠ gb398)); replace BK398 := mk_ (blk_at BK398.out hb); (try clear HO417 HO420); clear hb hbox hg; have hnb101 := NB426_386.out; have hnc101 := NB386_426.out; have hnb102 := NB426_398.out; have hnc102 := NB398_426.out; have hcz103_0 := blk_cell BK426.out 0; have hcz103_1 := blk_cell BK426.out 1; have hfz103_0 := blk_frozen BK426.out 0; have hfz103_1 := blk_frozen BK426.out 1; obtain ⟨Ao104, co104, eo104⟩ := Kd.R_slice HO424.out; subst eo104))
   (try simp only [Act.put, z0_, z1_, z2_])
   go_cut [123] (fun v123 wc => ∃ (kq : Nat) (x123_88 : Bool), v123 = .bool x123_88 ∧ Aside0 (laws_FnExactReadProof.j2 kq t412 x123_88 t393 t413 = some true) ∧ Aside0 (kq ≤ kj55) ∧ Aside0 (Kd.R k68 68 wc w.heap.size (fun k_ => some k_ ≠ ((.slice Ao36 t394.length co36) : Value).ownBlock ∧ some k_ ≠ ((.slice Ao104 t422.length co104) : Value).ownBlock) (.slice Ao27 t382.length co27) t382) ∧ Aside0 (Kd.R k68 68 wc w.heap.size (fun k_ => some k_ ≠ ((.slice Ao27 t382.length co27) : Value).ownBlock ∧ some k_ ≠ ((.slice Ao104 t422.length co104) : Value).ownBlock) (.slice Ao36 t394.length co36) t413) ∧ Aside0 (Kd.R k68 68 wc w.heap.size (fun k_ => some k_ ≠ ((.slice Ao27 t382.length co27) : Value).ownBlock ∧ some k_ ≠ ((.slice Ao36 t394.length co36) : Value).ownBlock) (.slice Ao104 t422.length co104) t422) ∧ Aside0 (wc.heap[gb386]? = some (.cells #[.int .i64 t381, (.slice Ao27 t382.length co27)] 27 (0, 0))) ∧ Aside0 (wc.heap[gb398]? = some (.cells #[.int .i64 t393, (.slice Ao36 t394.length co36)] 27 (0, 0))) ∧ Aside0 (wc.heap[gb426]? = some (.cells #[.int .i64 t421, (.slice Ao104 t422.length co104)] 27 (0, 0))) ∧ Aside0 (Below w.heap.size w wc))
   case first =>
    have H := HC89.out
    clear HC89
    replace H := Option.bind_eq_some_iff.mp H
    obtain ⟨t427, A1050, H⟩ := H
    try dsimp only at H
    have A105 := mk_ A1050
    clear A1050
    by_cases c106 : t427 = true
    ·subst c106
     rw [if_pos rfl] at H
     have H' := mk_ H
     clear H
     have hnb107 := NB426_386.out
     have hnc107 := NB386_426.out
     have hnb108 := NB426_398.out
     have hnc108 := NB398_426.out
     have hcz109_0 := blk_cell BK426.out 0
     have hcz109_1 := blk_cell BK426.out 1
     have hfz109_0 := blk_frozen BK426.out 0
     have hfz109_1 := blk_frozen BK426.out 1
     have hnb110 := NB386_398.out
     have hnc110 := NB398_386.out
     have hcz111_0 := blk_cell BK386.out 0
     have hcz111_1 := blk_cell BK386.out 1
     have hfz111_0 := blk_frozen BK386.out 0
     have hfz111_1 := blk_frozen BK386.out 1
     go_wp2_with (first | ((with_reducible refine gate_callee (f := 21) rfl ?_); refine goesL_ (some 117) rfl rfl Tryd.func21 (by kernel_rfl) rfl #[.agg #[.int .i64 t421, .slice Ao104 t422.length co104], .agg #[.int .i64 t381, .slice Ao27 t382.length co27]] rfl gl_ ?_; (with_reducible refine (laws_eqProof.calls kj55 t421 _ _ t422 t381 _ _ t382 true _ ?side1 ?side2 ?side3 ?side4 A105.out).mono ?_); (case side1 => refine (Kd.R_reads' (e := 68) (base := w.heap.size) (ok := fun k_ => ((True ∧ some k_ ≠ (.slice Ao27 t382.length co27 : Value).ownBlock) ∧ some k_ ≠ (.slice Ao36 t394.length co36 : Value).ownBlock)) (n := t422.length) (c := co104) ?_).2.2; exact (by (with_reducible repeat (first | apply Kd.R_alloc | apply Kd.R_drewN | apply Kd.R_drew)); exact (Kd.R_mono (Kd.R_far (p := ⟨gb426, 1, none⟩) (Kd.R_far (p := ⟨gb426, 0, none⟩) (Kd.R_types HO424.out BK426.out (by decide)) (fun _ hk => hk.2) (.int .i64 t421)) (fun _ hk => hk.2) (.slice Ao104 t422.length co104)) (fun _ h_ => h_.1)))); (case side2 => exact (Kd.R_reads' HO424.out).2.1); (case side3 => refine (Kd.R_reads' (e := 68) (base := w.heap.size) (ok := fun k_ => (some k_ ≠ (.slice Ao36 t394.length co36 : Value).ownBlock ∧ some k_ ≠ (.slice Ao104 t422.length co104 : Value).ownBlock)) (n := t382.length) (c := co27) ?_).2.2; exact (by (with_reducible repeat (first | apply Kd.R_alloc | apply Kd.R_drewN | apply Kd.R_drew)); exact (Kd.R_mono (Kd.R_far (p := ⟨gb426, 1, none⟩) (Kd.R_far (p := ⟨gb426, 0, none⟩) (Kd.R_types HO_387001.out BK426.out (by decide)) (fun _ hk => hk.2) (.int .i64 t421)) (fun _ hk => hk.2) (.slice Ao104 t422.length co104)) (fun _ h_ => h_.1)))); (case side4 => exact (Kd.R_reads' HO_387001.out).2.1); rintro e w112 ⟨rfl, hb⟩; refine ⟨_, rfl, ?_⟩; replace HO_387001 := mk_ (Kd.R_below (by (with_reducible repeat (first | apply Kd.R_alloc | apply Kd.R_drewN | apply Kd.R_drew)); exact (Kd.R_mono (Kd.R_far (p := ⟨gb426, 1, none⟩) (Kd.R_far (p := ⟨gb426, 0, none⟩) (Kd.R_types HO_387001.out BK426.out (by decide)) (fun _ hk => hk.2) (.int .i64 t421)) (fun _ hk => hk.2) (.slice Ao104 t422.length co104)) (fun _ h_ => h_.1))) hb); replace HO_399001 := mk_ (Kd.R_below (by (with_reducible repeat (first | apply Kd.R_alloc | apply Kd.R_drewN | apply Kd.R_drew)); exact (Kd.R_mono (Kd.R_far (p := ⟨gb426, 1, none⟩) (Kd.R_far (p := ⟨gb426, 0, none⟩) (Kd.R_types HO_399001.out BK426.out (by decide)) (fun _ hk => hk.2) (.int .i64 t421)) (fun _ hk => hk.2) (.slice Ao104 t422.length co104)) (fun _ h_ => h_.1))) hb); replace HO424 := mk_ (Kd.R_below (by (with_reducible repeat (first | apply Kd.R_alloc | apply Kd.R_drewN | apply Kd.R_drew)); exact (Kd.R_mono (Kd.R_far (p := ⟨gb426, 1, none⟩) (Kd.R_far (p := ⟨gb426, 0, none⟩) (Kd.R_types HO424.out BK426.out (by decide)) (fun _ hk => hk.2) (.int .i64 t421)) (fun _ hk => hk.2) (.slice Ao104 t422.length co104)) (fun _ h_ => h_.1))) hb); replace BK386 := mk_ (blk_below (g := gb386) (o := .cells #[.int .i64 t381, .slice Ao27 t382.length co27] 27 (0, 0)) (by refine bs_ ?_; refine blk_far ?_ NB386_426.out _; refine bs_ ?_; refine blk_far ?_ NB386_426.out _; refine bs_ ?_; exact BK386.out) hb); replace BK398 := mk_ (blk_below (g := gb398) (o := .cells #[.int .i64 t393, .slice Ao36 t394.length co36] 27 (0, 0)) (by refine bs_ ?_; refine blk_far ?_ NB398_426.out _; refine bs_ ?_; refine blk_far ?_ NB398_426.out _; refine bs_ ?_; exact BK398.out) hb); replace BK426 := mk_ (blk_below (g := gb426) (o := .cells #[.int .i64 t421, .slice Ao104 t422.length co104] 27 (0, 0)) (by refine bs_ ?_; refine blk_put (cs := #[.int .i64 t421, .slice none 0 0]) ?_ 1 _ rfl; refine bs_ ?_; refine blk_put (cs := #[.int .i64 0, .slice none 0 0]) ?_ 0 _ rfl; refine bs_ ?_; exact BK426.out) hb); replace HB := mk_ (below_step (at_ HB.out) hb); (try clear HO417 HO420); (try clear hb); (try clear hb2); (try clear hk); (try clear hi)))
     go_meet
     case rel => exact ⟨_, ((t425 != t385)), sm_, H', ⟨by have := HJ17.out; have := HJ55.out; first | omega | exact Nat.le_refl _⟩, ⟨Kd.R_below HO_387001.out lt_⟩, ⟨Kd.R_below HO_399001.out lt_⟩, ⟨Kd.R_below (Kd.R_mono HO424.out (fun _ hk => ⟨hk.1.2, hk.2⟩)) lt_⟩, ⟨by refine bs_ ?_; exact BK386.out⟩, ⟨by refine bs_ ?_; exact BK398.out⟩, ⟨by refine bs_ ?_; exact BK426.out⟩, ⟨at_ HB.out⟩⟩
    replace c106 := Bool.eq_false_iff.mpr c106
    subst c106
    rw [if_neg Bool.false_ne_true] at H
    have H' := mk_ H
    clear H
    have hnb113 := NB426_386.out
    have hnc113 := NB386_426.out
    have hnb114 := NB426_398.out
    have hnc114 := NB398_426.out
    have hcz115_0 := blk_cell BK426.out 0
    have hcz115_1 := blk_cell BK426.out 1
    have hfz115_0 := blk_frozen BK426.out 0
    have hfz115_1 := blk_frozen BK426.out 1
    have hnb116 := NB386_398.out
    have hnc116 := NB398_386.out
    have hcz117_0 := blk_cell BK386.out 0
    have hcz117_1 := blk_cell BK386.out 1
    have hfz117_0 := blk_frozen BK386.out 0
    have hfz117_1 := blk_frozen BK386.out 1
    go_wp2_with (first | ((with_reducible refine gate_callee (f := 21) rfl ?_); refine goesL_ (some 117) rfl rfl Tryd.func21 (by kernel_rfl) rfl #[.agg #[.int .i64 t421, .slice Ao104 t422.length co104], .agg #[.int .i64 t381, .slice Ao27 t382.length co27]] rfl gl_ ?_; (with_reducible refine (laws_eqProof.calls kj55 t421 _ _ t422 t381 _ _ t382 false _ ?side1 ?side2 ?side3 ?side4 A105.out).mono ?_); (case side1 => refine (Kd.R_reads' (e := 68) (base := w.heap.size) (ok := fun k_ => ((True ∧ some k_ ≠ (.slice Ao27 t382.length co27 : Value).ownBlock) ∧ some k_ ≠ (.slice Ao36 t394.length co36 : Value).ownBlock)) (n := t422.length) (c := co104) ?_).2.2; exact (by (with_reducible repeat (first | apply Kd.R_alloc | apply Kd.R_drewN | apply Kd.R_drew)); exact (Kd.R_mono (Kd.R_far (p := ⟨gb426, 1, none⟩) (Kd.R_far (p := ⟨gb426, 0, none⟩) (Kd.R_types HO424.out BK426.out (by decide)) (fun _ hk => hk.2) (.int .i64 t421)) (fun _ hk => hk.2) (.slice Ao104 t422.length co104)) (fun _ h_ => h_.1)))); (case side2 => exact (Kd.R_reads' HO424.out).2.1); (case side3 => refine (Kd.R_reads' (e := 68) (base := w.heap.size) (ok := fun k_ => (some k_ ≠ (.slice Ao36 t394.length co36 : Value).ownBlock ∧ some k_ ≠ (.slice Ao104 t422.length co104 : Value).ownBlock)) (n := t382.length) (c := co27) ?_).2.2; exact (by (with_reducible repeat (first | apply Kd.R_alloc | apply Kd.R_drewN | apply Kd.R_drew)); exact (Kd.R_mono (Kd.R_far (p := ⟨gb426, 1, none⟩) (Kd.R_far (p := ⟨gb426, 0, none⟩) (Kd.R_types HO_387001.out BK426.out (by decide)) (fun _ hk => hk.2) (.int .i64 t421)) (fun _ hk => hk.2) (.slice Ao104 t422.length co104)) (fun _ h_ => h_.1)))); (case side4 => exact (Kd.R_reads' HO_387001.out).2.1); rintro e w118 ⟨rfl, hb⟩; refine ⟨_, rfl, ?_⟩; replace HO_387001 := mk_ (Kd.R_below (by (with_reducible repeat (first | apply Kd.R_alloc | apply Kd.R_drewN | apply Kd.R_drew)); exact (Kd.R_mono (Kd.R_far (p := ⟨gb426, 1, none⟩) (Kd.R_far (p := ⟨gb426, 0, none⟩) (Kd.R_types HO_387001.out BK426.out (by decide)) (fun _ hk => hk.2) (.int .i64 t421)) (fun _ hk => hk.2) (.slice Ao104 t422.length co104)) (fun _ h_ => h_.1))) hb); replace HO_399001 := mk_ (Kd.R_below (by (with_reducible repeat (first | apply Kd.R_alloc | apply Kd.R_drewN | apply Kd.R_drew)); exact (Kd.R_mono (Kd.R_far (p := ⟨gb426, 1, none⟩) (Kd.R_far (p := ⟨gb426, 0, none⟩) (Kd.R_types HO_399001.out BK426.out (by decide)) (fun _ hk => hk.2) (.int .i64 t421)) (fun _ hk => hk.2) (.slice Ao104 t422.length co104)) (fun _ h_ => h_.1))) hb); replace HO424 := mk_ (Kd.R_below (by (with_reducible repeat (first | apply Kd.R_alloc | apply Kd.R_drewN | apply Kd.R_drew)); exact (Kd.R_mono (Kd.R_far (p := ⟨gb426, 1, none⟩) (Kd.R_far (p := ⟨gb426, 0, none⟩) (Kd.R_types HO424.out BK426.out (by decide)) (fun _ hk => hk.2) (.int .i64 t421)) (fun _ hk => hk.2) (.slice Ao104 t422.length co104)) (fun _ h_ => h_.1))) hb); replace BK386 := mk_ (blk_below (g := gb386) (o := .cells #[.int .i64 t381, .slice Ao27 t382.length co27] 27 (0, 0)) (by refine bs_ ?_; refine blk_far ?_ NB386_426.out _; refine bs_ ?_; refine blk_far ?_ NB386_426.out _; refine bs_ ?_; exact BK386.out) hb); replace BK398 := mk_ (blk_below (g := gb398) (o := .cells #[.int .i64 t393, .slice Ao36 t394.length co36] 27 (0, 0)) (by refine bs_ ?_; refine blk_far ?_ NB398_426.out _; refine bs_ ?_; refine blk_far ?_ NB398_426.out _; refine bs_ ?_; exact BK398.out) hb); replace BK426 := mk_ (blk_below (g := gb426) (o := .cells #[.int .i64 t421, .slice Ao104 t422.length co104] 27 (0, 0)) (by refine bs_ ?_; refine blk_put (cs := #[.int .i64 t421, .slice none 0 0]) ?_ 1 _ rfl; refine bs_ ?_; refine blk_put (cs := #[.int .i64 0, .slice none 0 0]) ?_ 0 _ rfl; refine bs_ ?_; exact BK426.out) hb); replace HB := mk_ (below_step (at_ HB.out) hb); (try clear HO417 HO420); (try clear hb); (try clear hb2); (try clear hk); (try clear hi)))
    go_meet
    case rel => exact ⟨_, (true), sm_, H', ⟨by have := HJ17.out; have := HJ55.out; first | omega | exact Nat.le_refl _⟩, ⟨Kd.R_below HO_387001.out lt_⟩, ⟨Kd.R_below HO_399001.out lt_⟩, ⟨Kd.R_below (Kd.R_mono HO424.out (fun _ hk => ⟨hk.1.2, hk.2⟩)) lt_⟩, ⟨by refine bs_ ?_; exact BK386.out⟩, ⟨by refine bs_ ?_; exact BK398.out⟩, ⟨by refine bs_ ?_; exact BK426.out⟩, ⟨at_ HB.out⟩⟩
   clear HC89
   try clear c1
   try clear c2
   try clear p2
   try clear c3
   try clear c4
   try clear c5
   try clear c5b0
   try clear c5b1
   try clear c6
   try clear c7
   try clear c7b0
   try clear c8
   try clear c9
   try clear c10
   try clear c10b0
   try clear c11
   try clear c12
   try clear c13
   try clear c14
   try clear c16
   try clear c17
   try clear c19
   try clear c20
   try clear c21
   try clear c22
   try clear c23
   try clear c24
   try clear c25
   try clear c26
   try clear c34
   try clear c38
   try clear c39
   try clear c43
   try clear c47
   try clear c50
   try clear c53
   try clear c65
   try clear c65b0
   try clear c67
   try clear c68
   try clear c72
   try clear c76
   try clear c79
   try clear c79b0
   try clear c80
   try clear c85
   try clear c85b0
   try clear c85b1
   try clear c90
   try clear c101
   try clear c102
   try clear c106
   try clear c107
   try clear c108
   try clear c110
   try clear c113
   try clear c114
   try clear c116
   try clear hcz103_0
   try clear hcz103_1
   try clear hcz109_0
   try clear hcz109_1
   try clear hcz111_0
   try clear hcz111_1
   try clear hcz115_0
   try clear hcz115_1
   try clear hcz117_0
   try clear hcz117_1
   try clear hcz26_0
   try clear hcz26_1
   try clear hcz35_0
   try clear hcz35_1
   try clear hcz40_0
   try clear hcz40_1
   try clear hcz41_0
   try clear hcz41_1
   try clear hcz44_0
   try clear hcz44_1
   try clear hcz45_0
   try clear hcz45_1
   try clear hcz69_0
   try clear hcz69_1
   try clear hcz70_0
   try clear hcz70_1
   try clear hcz73_0
   try clear hcz73_1
   try clear hcz74_0
   try clear hcz74_1
   try clear hcz81_0
   try clear hcz81_1
   try clear hcz83_0
   try clear hcz83_1
   try clear hcz91_0
   try clear hcz91_1
   try clear hcz93_0
   try clear hcz93_1
   try clear hfz103_0
   try clear hfz103_1
   try clear hfz109_0
   try clear hfz109_1
   try clear hfz111_0
   try clear hfz111_1
   try clear hfz115_0
   try clear hfz115_1
   try clear hfz117_0
   try clear hfz117_1
   try clear hfz26_0
   try clear hfz26_1
   try clear hfz35_0
   try clear hfz35_1
   try clear hfz40_0
   try clear hfz40_1
   try clear hfz41_0
   try clear hfz41_1
   try clear hfz44_0
   try clear hfz44_1
   try clear hfz45_0
   try clear hfz45_1
   try clear hfz69_0
   try clear hfz69_1
   try clear hfz70_0
   try clear hfz70_1
   try clear hfz73_0
   try clear hfz73_1
   try clear hfz74_0
   try clear hfz74_1
   try clear hfz81_0
   try clear hfz81_1
   try clear hfz83_0
   try clear hfz83_1
   try clear hfz91_0
   try clear hfz91_1
   try clear hfz93_0
   try clear hfz93_1
   try clear p2
   obtain ⟨kq, x123_88, rfl, HA, HJ88, HO_387001, HO_399001, HO_427001, BK386, BK398, BK426, HB⟩ := hcut
   have hl399001_88 := (Kd.R_reads' HO_399001.out).1
   rw [hl399001_88] at HO_399001
   (try simp only [hl399001_88])
   (try simp only [hl399001_88] at BK386)
   (try simp only [hl399001_88] at BK398)
   (try simp only [hl399001_88] at BK426)
   (try simp only [hl399001_88] at HO_387001)
   (try simp only [hl399001_88] at HO_427001)
   cases kq with
   | zero => exact absurd HA.out (by simp [laws_FnExactReadProof.j2])
   | succ kj88 =>
    have H := HA.out
    clear HA
    simp only [laws_FnExactReadProof.j2] at H
    by_cases c119 : x123_88 = true
    ·subst c119
     rw [if_pos rfl] at H
     cases H
    replace c119 := Bool.eq_false_iff.mpr c119
    subst c119
    rw [if_neg Bool.false_ne_true] at H
    replace H := Option.bind_eq_some_iff.mp H
    obtain ⟨t428, A1200, H⟩ := H
    try dsimp only at H
    have A120 := mk_ A1200
    clear A1200
    by_cases c121 : t428 < 0
    ·rw [if_pos c121] at H
     have c121b0 : decide (t428 < 0) = true := decide_eq_true c121
     clear c121
     cases H
    rw [if_neg c121] at H
    have c121b0 : decide (t428 < 0) = false := decide_eq_false c121
    clear c121
    by_cases c126 : t428 = t412
    ·rw [if_pos c126] at H
     have c126b0 : (t428 == t412) = true := beq_iff_eq.mpr c126
     have c126b1 : (t428 != t412) = false := bne_eq_false_iff_eq.mpr c126
     clear c126
     first | (obtain rfl := Option.some.inj H) | clear H
     have hnb127 := NB398_386.out
     have hnc127 := NB386_398.out
     have hnb128 := NB398_426.out
     have hnc128 := NB426_398.out
     have hcz129_0 : wc.cell? ⟨gb398, 0, none⟩ = some (.int .i64 t393) := (blk_cell BK398.out 0).trans rfl
     have hcz129_1 : wc.cell? ⟨gb398, 1, none⟩ = some (.slice Ao36 t413.length co36) := (blk_cell BK398.out 1).trans rfl
     have hfz129_0 := blk_frozen BK398.out 0
     have hfz129_1 := blk_frozen BK398.out 1
     go_wp2_with (first | ((with_reducible refine gate_callee (f := 26) rfl ?_); refine goesL_ (some 126) rfl rfl Tryd.func26 (by kernel_rfl) rfl #[.agg #[.int .i64 t393, .slice Ao36 t413.length co36], .int .i64 1] rfl gl_ ?_; (with_reducible refine (laws_heldProof.calls kj88 t393 _ _ t413 1 t428 _ ?side1 ?side2 A120.out).mono ?_); (case side1 => exact Kd.C_below (Kd.R_reads' HO_399001.out).2.2 lt_); (case side2 => exact (Kd.R_reads' HO_399001.out).2.1); rintro e w130 ⟨rfl, hb⟩; refine ⟨_, rfl, ?_⟩; replace HB := mk_ (below_step (at_ HB.out) hb); (try clear HO_387001 HO_399001 HO_427001 BK386 BK398 BK426); (try clear hb); (try clear hb2); (try clear hk); (try clear hi)))
     go_ret
     exact ⟨er_, at_ HB.out⟩
    rw [if_neg c126] at H
    have c126b0 : (t428 == t412) = false := beq_eq_false_iff_ne.mpr c126
    have c126b1 : (t428 != t412) = true := bne_iff_ne.mpr c126
    cases H

/-- THE ONE PURE STATEMENT of laws_FnExactReadProof. -/
noncomputable def laws_FnExactReadProof.Pure : Prop := ∀ (a0 : Int) (l1 : List (S76)) (l2 : List (S84)) (a3 : ByteArray), ((Lit.int .i64 a0).wf = true) → (l1.length ≤ maxLen ∧ ∀ y0 ∈ l1, ((Lit.int .i64 y0.f0).wf = true) ∧ (y0.f1.length ≤ maxLen ∧ ∀ y1 ∈ y0.f1, ((Lit.int .i64 y1.f0).wf = true) ∧ ((Lit.int .i64 y1.f1).wf = true))) → (l2.length ≤ maxLen ∧ ∀ y0 ∈ l2, ((Lit.int .i64 y0.f0).wf = true) ∧ ((Lit.int .i64 y0.f1).wf = true)) → (a3.size ≤ 140737488351232) → ∃ k, laws_FnExactReadProof.f k a0 l1 l2 a3 = some true
theorem laws_FnExactReadProof.walk (P : laws_FnExactReadProof.Pure) (a0 : Int) (A1 : Option Addr) (c1 : Nat) (l1 : List (S76)) (A2 : Option Addr) (c2 : Nat) (l2 : List (S84)) (a3 : ByteArray) (w : World) (hr1 : Kd.C k76 w A1 l1.length l1) (hc1 : l1.length ≤ c1) (hr2 : Kd.C k84 w A2 l2.length l2) (hc2 : l2.length ≤ c2) (wf0_ : (Lit.int .i64 a0).wf = true) (wf1_ : l1.length ≤ maxLen ∧ ∀ y0 ∈ l1, ((Lit.int .i64 y0.f0).wf = true) ∧ (y0.f1.length ≤ maxLen ∧ ∀ y1 ∈ y0.f1, ((Lit.int .i64 y1.f0).wf = true) ∧ ((Lit.int .i64 y1.f1).wf = true))) (wf2_ : l2.length ≤ maxLen ∧ ∀ y0 ∈ l2, ((Lit.int .i64 y0.f0).wf = true) ∧ ((Lit.int .i64 y0.f1).wf = true)) (wf3_ : a3.size ≤ 140737488351232) :
  Calls Tryd.prog 5 #[.int .i64 a0, .slice A1 l1.length c1, .slice A2 l2.length c2, .string a3] w fun e w' => e = .returned (.bool true) ∧ Below w.heap.size w w' := by
 obtain ⟨k, h⟩ := P a0 l1 l2 a3 wf0_ wf1_ wf2_ wf3_
 refine (laws_FnExactReadProof.calls k a0 A1 c1 l1 A2 c2 l2 a3 true w hr1 hc1 hr2 hc2 h rfl).mono ?_
 rintro e w' ⟨rfl, hd⟩
 exact ⟨rfl, hd⟩

end Go.Proofs.YtcaogllnbpmcgaaDoor.P

/- Go's functions come to just the answers of the Lean functions told here. -/
import Derived.Test.YtcaogllnbpmcgaaPx12
import Derived.Test.YtcaogllnbpmcgaaPx18
import Derived.Test.YtcaogllnbpmcgaaPx19
namespace Go.Proofs.Ytcaogllnbpmcgaa.P
open Go.RowKit Go.Proofs.YtcaogllnbpmcgaaW.PrintWords Go.Proofs.YtcaogllnbpmcgaaW.PrintLast Go.Proofs.YtcaogllnbpmcgaaW.PrintMore
attribute [local go_sem] max2_int min2_int max_two min_two max_three min_three max_four min_four
set_option linter.unusedVariables false
set_option linter.unusedSimpArgs false

/-! ### laws_FnExactFindProof: function 9 -/
mutual
noncomputable def laws_FnExactFindProof.j0 : Nat → Int → List (S75) → List (S100) → Bool → List (S38) → List (S47) → Bool → Bool → Int → List (S93) → Int → List (S93) → Option (Bool)
 | 0, _, _, _, _, _, _, _, _, _, _, _, _ => none
 | k + 1, x0, x1, x2, x9, x10, x11, x13, x57, x323000, x323001, x335000, x335001 => if x57 = true then (some false) else ((laws_toClaimS.f k x1).bind fun t336 => ((laws_eqClaimS.f k x10 t336).bind fun t339 => (if t339 = true then ((laws_toMarkS.f k x2).bind fun t340 => ((laws_eqMarkS.f k x11 t340).bind fun t343 => (if t343 = true then ((laws_markClaimS.f k x10 1).bind fun bt344 => ((laws_markMarkS.f k x11 bt344.1).bind fun bt345 => (if bt345.1 < 0 then (laws_FnExactFindProof.j1 k x0 x1 x2 x9 true x323000 x323001 x335000 x335001) else ((laws_eqProof.f k x335000 x335001 x323000 x323001).bind fun t347 => (if t347 = true then (laws_FnExactFindProof.j1 k x0 x1 x2 x9 (x13 != x9) x323000 x323001 x335000 x335001) else (laws_FnExactFindProof.j1 k x0 x1 x2 x9 true x323000 x323001 x335000 x335001)))))) else (some false)))) else (some false))))
noncomputable def laws_FnExactFindProof.j1 : Nat → Int → List (S75) → List (S100) → Bool → Bool → Int → List (S93) → Int → List (S93) → Option (Bool)
 | 0, _, _, _, _, _, _, _, _, _ => none
 | k + 1, x0, x1, x2, x9, x86, x323000, x323001, x335000, x335001 => if x86 = true then (some false) else ((laws_markProof.f k x335000 x335001 1).bind fun bt348 => ((laws_heldProof.f k x335000 bt348.2 1).bind fun t350 => (if t350 < 0 then (some false) else (if t350 = bt348.1 then ((laws_toClaimS.f k x1).bind fun t351 => ((laws_toMarkS.f k x2).bind fun t354 => ((impl_FindProof.f x0 t351 t354).bind fun bt357 => ((laws_eqProof.f k bt357.1 bt357.2.1 x323000 x323001).bind fun t363 => (if t363 = true then (laws_FnExactFindProof.j2 k bt348.1 (bt357.2.2 != x9) x335000 bt348.2) else (laws_FnExactFindProof.j2 k bt348.1 true x335000 bt348.2)))))) else (some false)))))
noncomputable def laws_FnExactFindProof.j2 : Nat → Int → Bool → Int → List (S93) → Option (Bool)
 | 0, _, _, _, _ => none
 | k + 1, x15, x115, x335000, x335001 => if x115 = true then (some false) else ((laws_heldProof.f k x335000 x335001 1).bind fun t364 => (if t364 < 0 then (some false) else (if t364 = x15 then (some true) else (some false))))
end
noncomputable def laws_FnExactFindProof.f (k : Nat) (a0 : Int) (l1 : List (S75)) (l2 : List (S100)) : Option (Bool) := (laws_szClaimS.f k l1 1048576).bind fun t309 => (if t309 < 0 then (some true) else ((laws_szMarkS.f l2 t309).bind fun t310 => (if t310 < 0 then (some true) else ((laws_toClaimS.f k l1).bind fun t311 => ((laws_toMarkS.f k l2).bind fun t314 => ((spec_FindProof.f k a0 t311 t314).bind fun bt317 => ((laws_toClaimS.f k l1).bind fun t323 => ((laws_toMarkS.f k l2).bind fun t326 => ((impl_FindProof.f a0 t323 t326).bind fun bt329 => ((laws_eqProof.f k bt329.1 bt329.2.1 bt317.1 bt317.2.1).bind fun t335 => (if t335 = true then (laws_FnExactFindProof.j0 k a0 l1 l2 bt317.2.2 t323 t326 bt329.2.2 (bt329.2.2 != bt317.2.2) bt317.1 bt317.2.1 bt329.1 bt329.2.1) else (laws_FnExactFindProof.j0 k a0 l1 l2 bt317.2.2 t323 t326 bt329.2.2 true bt317.1 bt317.2.1 bt329.1 bt329.2.1))))))))))))
theorem laws_FnExactFindProof.mono_l : ∀ k, (∀ y0 y1 y2 y3 y4 y5 y6 y7 y8 y9 y10 y11, LeO (laws_FnExactFindProof.j0 k y0 y1 y2 y3 y4 y5 y6 y7 y8 y9 y10 y11) (laws_FnExactFindProof.j0 (k + 1) y0 y1 y2 y3 y4 y5 y6 y7 y8 y9 y10 y11)) ∧ (∀ y0 y1 y2 y3 y4 y5 y6 y7 y8, LeO (laws_FnExactFindProof.j1 k y0 y1 y2 y3 y4 y5 y6 y7 y8) (laws_FnExactFindProof.j1 (k + 1) y0 y1 y2 y3 y4 y5 y6 y7 y8)) ∧ (∀ y0 y1 y2 y3, LeO (laws_FnExactFindProof.j2 k y0 y1 y2 y3) (laws_FnExactFindProof.j2 (k + 1) y0 y1 y2 y3))
 | 0 => ⟨fun _ _ _ _ _ _ _ _ _ _ _ _ r h => by simp [laws_FnExactFindProof.j0] at h, fun _ _ _ _ _ _ _ _ _ r h => by simp [laws_FnExactFindProof.j1] at h, fun _ _ _ _ r h => by simp [laws_FnExactFindProof.j2] at h⟩
 | k + 1 => by
  obtain ⟨ih0, ih1, ih2⟩ := laws_FnExactFindProof.mono_l k
  refine ⟨?_, ?_, ?_⟩
  ·intro y0 y1 y2 y3 y4 y5 y6 y7 y8 y9 y10 y11
   unfold laws_FnExactFindProof.j0
   repeat' first
   | (with_reducible exact ih0 _ _ _ _ _ _ _ _ _ _ _ _)
   | (with_reducible exact ih1 _ _ _ _ _ _ _ _ _)
   | (with_reducible exact ih2 _ _ _ _)
   | (with_reducible exact laws_eqClaimS.mono _ _ _)
   | (with_reducible exact laws_eqMarkS.mono _ _ _)
   | (with_reducible exact laws_eqProof.mono _ _ _ _ _)
   | (with_reducible exact laws_heldProof.mono _ _ _ _)
   | (with_reducible exact laws_markClaimS.mono _ _ _)
   | (with_reducible exact laws_markMarkS.mono _ _ _)
   | (with_reducible exact laws_markProof.mono _ _ _ _)
   | (with_reducible exact laws_szClaimS.mono _ _ _)
   | (with_reducible exact laws_toClaimS.mono _ _)
   | (with_reducible exact laws_toMarkS.mono _ _)
   | (with_reducible exact spec_FindProof.mono _ _ _ _)
   | (with_reducible exact LeO.refl _)
   | (with_reducible exact LeO.none _)
   | (with_reducible refine LeO.ite ?_ ?_)
   | (with_reducible refine LeO.bind ?_ (fun _ => ?_))
  ·intro y0 y1 y2 y3 y4 y5 y6 y7 y8
   unfold laws_FnExactFindProof.j1
   repeat' first
   | (with_reducible exact ih0 _ _ _ _ _ _ _ _ _ _ _ _)
   | (with_reducible exact ih1 _ _ _ _ _ _ _ _ _)
   | (with_reducible exact ih2 _ _ _ _)
   | (with_reducible exact laws_eqClaimS.mono _ _ _)
   | (with_reducible exact laws_eqMarkS.mono _ _ _)
   | (with_reducible exact laws_eqProof.mono _ _ _ _ _)
   | (with_reducible exact laws_heldProof.mono _ _ _ _)
   | (with_reducible exact laws_markClaimS.mono _ _ _)
   | (with_reducible exact laws_markMarkS.mono _ _ _)
   | (with_reducible exact laws_markProof.mono _ _ _ _)
   | (with_reducible exact laws_szClaimS.mono _ _ _)
   | (with_reducible exact laws_toClaimS.mono _ _)
   | (with_reducible exact laws_toMarkS.mono _ _)
   | (with_reducible exact spec_FindProof.mono _ _ _ _)
   | (with_reducible exact LeO.refl _)
   | (with_reducible exact LeO.none _)
   | (with_reducible refine LeO.ite ?_ ?_)
   | (with_reducible refine LeO.bind ?_ (fun _ => ?_))
  ·intro y0 y1 y2 y3
   unfold laws_FnExactFindProof.j2
   repeat' first
   | (with_reducible exact ih0 _ _ _ _ _ _ _ _ _ _ _ _)
   | (with_reducible exact ih1 _ _ _ _ _ _ _ _ _)
   | (with_reducible exact ih2 _ _ _ _)
   | (with_reducible exact laws_eqClaimS.mono _ _ _)
   | (with_reducible exact laws_eqMarkS.mono _ _ _)
   | (with_reducible exact laws_eqProof.mono _ _ _ _ _)
   | (with_reducible exact laws_heldProof.mono _ _ _ _)
   | (with_reducible exact laws_markClaimS.mono _ _ _)
   | (with_reducible exact laws_markMarkS.mono _ _ _)
   | (with_reducible exact laws_markProof.mono _ _ _ _)
   | (with_reducible exact laws_szClaimS.mono _ _ _)
   | (with_reducible exact laws_toClaimS.mono _ _)
   | (with_reducible exact laws_toMarkS.mono _ _)
   | (with_reducible exact spec_FindProof.mono _ _ _ _)
   | (with_reducible exact LeO.refl _)
   | (with_reducible exact LeO.none _)
   | (with_reducible refine LeO.ite ?_ ?_)
   | (with_reducible refine LeO.bind ?_ (fun _ => ?_))
theorem laws_FnExactFindProof.mono : ∀ a0 a1 a2 k, LeO (laws_FnExactFindProof.f k a0 a1 a2) (laws_FnExactFindProof.f (k + 1) a0 a1 a2) := by
 intro a0 a1 a2 k
 obtain ⟨ih0, ih1, ih2⟩ := laws_FnExactFindProof.mono_l k
 unfold laws_FnExactFindProof.f
 repeat' first
   | (with_reducible exact ih0 _ _ _ _ _ _ _ _ _ _ _ _)
   | (with_reducible exact ih1 _ _ _ _ _ _ _ _ _)
   | (with_reducible exact ih2 _ _ _ _)
   | (with_reducible exact laws_eqClaimS.mono _ _ _)
   | (with_reducible exact laws_eqMarkS.mono _ _ _)
   | (with_reducible exact laws_eqProof.mono _ _ _ _ _)
   | (with_reducible exact laws_heldProof.mono _ _ _ _)
   | (with_reducible exact laws_markClaimS.mono _ _ _)
   | (with_reducible exact laws_markMarkS.mono _ _ _)
   | (with_reducible exact laws_markProof.mono _ _ _ _)
   | (with_reducible exact laws_szClaimS.mono _ _ _)
   | (with_reducible exact laws_toClaimS.mono _ _)
   | (with_reducible exact laws_toMarkS.mono _ _)
   | (with_reducible exact spec_FindProof.mono _ _ _ _)
   | (with_reducible exact LeO.refl _)
   | (with_reducible exact LeO.none _)
   | (with_reducible refine LeO.ite ?_ ?_)
   | (with_reducible refine LeO.bind ?_ (fun _ => ?_))
theorem markC_at {v : Value} {l0 r2 : List (S38)} {a1 r1 : Int} {w0 w : World} {ok : Nat → Prop} (k : Nat) (hB : Below w0.heap.size w0 w) (ho : Kd.S k38 38 w w0.heap.size ok v l0) (h : laws_markClaimS.f k l0 a1 = some (r1, r2)) :
 Calls Try.prog 39 #[v, .int .i64 a1] w fun e w' => e = .returned (.int .i64 r1) ∧ Below w0.heap.size w0 w' ∧ Kept w w' (fun k_ => ok k_ ∧ ∃ q, q ∈ 38 :: Kd.E k38 ∧ ∃ cells, w.heap[k_]? = some (.cells cells q (0, 0))) :=
 (laws_markClaimS.calls k _ v l0 a1 r1 r2 w0 w hB (Kd.S_mono (Kd.S_bound ho) (fun k_ hk_ => ⟨hk_.1, hk_.2.2.2⟩)) h).mono (fun e w' h => ⟨h.1, h.2.2.1, h.2.2.2⟩)
section
variable {β : Type} {d2 : Kd β} {e e2 base g : Nat} {E : List Nat} {W W2 : World} {ok ok1 : Nat → Prop} {v : Value} {xs : List β} {cs : Array Value}
theorem R_sameT (hE : d2.E = []) (h : d2.R e2 W base ok v xs) (hk : Kept W W2 (fun k => some k ≠ v.ownBlock ∧ ∃ q, q ∈ e :: E ∧ ∃ cells, W.heap[k]? = some (.cells cells q (0, 0)))) : d2.R e2 W2 base ok v xs :=
 Kd.R_mono (Kd.R_kept (Kd.R_tight2 hE h) hk (fun k hk1 hs => hs.1 hk1.1)) (fun k hk => hk.2)
theorem R_otherT (hE : d2.E = []) (h : d2.R e2 W base ok v xs) (hk : Kept W W2 (fun k => ok1 k ∧ ∃ q, q ∈ e :: E ∧ ∃ cells, W.heap[k]? = some (.cells cells q (0, 0)))) (ht : ∀ q, q ∈ e :: E → q ≠ e2) : d2.R e2 W2 base ok v xs :=
 Kd.R_mono (Kd.R_kept (Kd.R_tight2 hE h) hk (fun k hk1 hs => by
  obtain ⟨_, q, hq, cells, hc⟩ := hs
  obtain ⟨cells2, hc2⟩ := Kd.R_typed h k hk1.1.symm
  rw [hc] at hc2
  injection hc2 with hc2
  injection hc2 with _ hc2 _
  exact ht q hq hc2)) (fun k hk => hk.2)
theorem blk_otherT {t : Nat} (hb : W.heap[g]? = some (.cells cs t (0, 0))) (hk : Kept W W2 (fun k => ok1 k ∧ ∃ q, q ∈ e :: E ∧ ∃ cells, W.heap[k]? = some (.cells cells q (0, 0)))) (ht : ∀ q, q ∈ e :: E → q ≠ t) : W2.heap[g]? = some (.cells cs t (0, 0)) :=
 blk_kept hb hk (fun hs => by
  obtain ⟨_, q, hq, cells, hc⟩ := hs
  rw [hb] at hc
  injection hc with hc
  injection hc with _ hc _
  exact ht q hq hc.symm)
end
set_option maxHeartbeats 8000000 in
set_option maxRecDepth 100000 in
theorem laws_FnExactFindProof.calls (k : Nat) (a0 : Int) (A1 : Option Addr) (c1 : Nat) (l1 : List (S75)) (A2 : Option Addr) (c2 : Nat) (l2 : List (S100)) (r : Bool) (w : World) (hr1 : Kd.C k75 w A1 l1.length l1) (hc1 : l1.length ≤ c1) (hr2 : Kd.C k100 w A2 l2.length l2) (hc2 : l2.length ≤ c2) (h : laws_FnExactFindProof.f k a0 l1 l2 = some r) :
  Calls Try.prog 9 #[.int .i64 a0, .slice A1 l1.length c1, .slice A2 l2.length c2] w fun e w' => e = .returned (.bool r) ∧ Below w.heap.size w w' := by
 have hu51 := Try.underlying51
 have HR1 := mk_ hr1
 have HC1 := mk_ hc1
 clear hr1 hc1
 have HR2 := mk_ hr2
 have HC2 := mk_ hc2
 clear hr2 hc2
 have HB := mk_ (Below.refl w.heap.size w)
 unfold laws_FnExactFindProof.f at h
 have H := h
 clear h
 replace H := Option.bind_eq_some_iff.mp H
 obtain ⟨t309, A40, H⟩ := H
 try dsimp only at H
 have A4 := mk_ A40
 clear A40
 by_cases c5 : t309 < 0
 ·rw [if_pos c5] at H
  have c5b0 : decide (t309 < 0) = true := decide_eq_true c5
  clear c5
  obtain rfl := Option.some.inj H
  go_enter Try.func9, Try.ntmps9
  go_wp2_with (first | ((with_reducible refine gate_callee (f := 12) rfl ?_); refine goesL_ (some 21) rfl rfl Try.func12 (by kernel_rfl) rfl #[.slice A1 l1.length c1, .int .i64 1048576] rfl gl_ ?_; (with_reducible refine (laws_szClaimS.calls k _ _ l1 1048576 t309 _ ?side1 ?side2 A4.out).mono ?_); (case side1 => exact Kd.C_below HR1.out lt_); (case side2 => exact HC1.out); rintro e w6 ⟨rfl, hb⟩; refine ⟨_, rfl, ?_⟩; replace HB := mk_ (below_step (below_at HB.out) hb); (try clear hb); (try clear hb2); (try clear hk); (try clear hi)))
  go_ret
  exact ⟨er_, below_at HB.out⟩
 rw [if_neg c5] at H
 have c5b0 : decide (t309 < 0) = false := decide_eq_false c5
 clear c5
 replace H := Option.bind_eq_some_iff.mp H
 obtain ⟨t310, A70, H⟩ := H
 try dsimp only at H
 have A7 := mk_ A70
 clear A70
 by_cases c8 : t310 < 0
 ·rw [if_pos c8] at H
  have c8b0 : decide (t310 < 0) = true := decide_eq_true c8
  clear c8
  obtain rfl := Option.some.inj H
  go_enter Try.func9, Try.ntmps9
  go_wp2_with (first | ((with_reducible refine gate_callee (f := 12) rfl ?_); refine goesL_ (some 21) rfl rfl Try.func12 (by kernel_rfl) rfl #[.slice A1 l1.length c1, .int .i64 1048576] rfl gl_ ?_; (with_reducible refine (laws_szClaimS.calls k _ _ l1 1048576 t309 _ ?side1 ?side2 A4.out).mono ?_); (case side1 => exact Kd.C_below HR1.out lt_); (case side2 => exact HC1.out); rintro e w9 ⟨rfl, hb⟩; refine ⟨_, rfl, ?_⟩; replace HB := mk_ (below_step (below_at HB.out) hb); (try clear hb); (try clear hb2); (try clear hk); (try clear hi)) | ((with_reducible refine gate_callee (f := 30) rfl ?_); refine goesL_ (some 26) rfl rfl Try.func30 (by kernel_rfl) rfl #[.slice A2 l2.length c2, .int .i64 t309] rfl gl_ ?_; (with_reducible refine (laws_szMarkS.calls _ _ l2 t309 t310 _ ?side1 ?side2 A7.out).mono ?_); (case side1 => exact Kd.C_below (Kd.C_below HR2.out HB.out) lt_); (case side2 => exact HC2.out); rintro e w' ⟨rfl, ⟨nd, rfl⟩⟩; refine ⟨_, rfl, ?_⟩))
  go_ret
  exact ⟨er_, below_at HB.out⟩
 rw [if_neg c8] at H
 have c8b0 : decide (t310 < 0) = false := decide_eq_false c8
 clear c8
 replace H := Option.bind_eq_some_iff.mp H
 obtain ⟨t311, A100, H⟩ := H
 try dsimp only at H
 have A10 := mk_ A100
 clear A100
 replace H := Option.bind_eq_some_iff.mp H
 obtain ⟨t314, A110, H⟩ := H
 try dsimp only at H
 have A11 := mk_ A110
 clear A110
 replace H := Option.bind_eq_some_iff.mp H
 obtain ⟨⟨t317, t318, t321⟩, A120, H⟩ := H
 try dsimp only at H
 have A12 := mk_ A120
 clear A120
 replace H := Option.bind_eq_some_iff.mp H
 obtain ⟨t323, A130, H⟩ := H
 try dsimp only at H
 have A13 := mk_ A130
 clear A130
 replace H := Option.bind_eq_some_iff.mp H
 obtain ⟨t326, A140, H⟩ := H
 try dsimp only at H
 have A14 := mk_ A140
 clear A140
 replace H := Option.bind_eq_some_iff.mp H
 obtain ⟨⟨t329, t330, t333⟩, A150, H⟩ := H
 try dsimp only at H
 have A15 := mk_ A150
 clear A150
 have HC16 := mk_ H
 clear H
 go_enter Try.func9, Try.ntmps9
 go_upto_region 12 with (first | ((with_reducible refine gate_callee (f := 12) rfl ?_); refine goesL_ (some 21) rfl rfl Try.func12 (by kernel_rfl) rfl #[.slice A1 l1.length c1, .int .i64 1048576] rfl gl_ ?_; (with_reducible refine (laws_szClaimS.calls k _ _ l1 1048576 t309 _ ?side1 ?side2 A4.out).mono ?_); (case side1 => exact Kd.C_below HR1.out lt_); (case side2 => exact HC1.out); rintro e w17 ⟨rfl, hb⟩; refine ⟨_, rfl, ?_⟩; replace HB := mk_ (below_step (below_at HB.out) hb); (try clear hb); (try clear hb2); (try clear hk); (try clear hi)) | ((with_reducible refine gate_callee (f := 30) rfl ?_); refine goesL_ (some 26) rfl rfl Try.func30 (by kernel_rfl) rfl #[.slice A2 l2.length c2, .int .i64 t309] rfl gl_ ?_; (with_reducible refine (laws_szMarkS.calls _ _ l2 t309 t310 _ ?side1 ?side2 A7.out).mono ?_); (case side1 => exact Kd.C_below (Kd.C_below HR2.out HB.out) lt_); (case side2 => exact HC2.out); rintro e w' ⟨rfl, ⟨nd, rfl⟩⟩; refine ⟨_, rfl, ?_⟩; (try (rw [drewN_self w17]; generalize hq_ : World.drewN w17 _ = w17; have n0_ : Aside0 (Below w.heap.size w w17) := ⟨by rw [← hq_]; exact (below_at HB.out)⟩; clear HB hq_; have HB := n0_; clear n0_))) | ((with_reducible refine gate_callee (f := 14) rfl ?_); refine goesL_ (some 32) rfl rfl Try.func14 (by kernel_rfl) rfl #[.slice A1 l1.length c1] rfl gl_ ?_; (with_reducible refine (laws_toClaimS.calls k _ _ l1 t311 _ ?side1 ?side2 A10.out).mono ?_); (case side1 => exact Kd.C_below (Kd.C_below HR1.out HB.out) lt_); (case side2 => exact HC1.out); rintro e w18 ⟨v312, rfl, ho0, hb⟩; refine ⟨_, rfl, ?_⟩; have HO313 := mk_ (Kd.S_lower ho0 (below_size (below_at HB.out))); replace HB := mk_ (below_step (below_at HB.out) hb); (try clear hb); (try clear hb2); (try clear hk); (try clear hi); (try clear ho0)) | ((with_reducible refine gate_callee (f := 33) rfl ?_); refine goesL_ (some 34) rfl rfl Try.func33 (by kernel_rfl) rfl #[.slice A2 l2.length c2] rfl gl_ ?_; (with_reducible refine (laws_toMarkS.calls k _ _ l2 t314 _ ?side1 ?side2 A11.out).mono ?_); (case side1 => exact Kd.C_below (Kd.C_below HR2.out HB.out) lt_); (case side2 => exact HC2.out); rintro e w19 ⟨v315, rfl, ho0, hb⟩; refine ⟨_, rfl, ?_⟩; replace HO313 := mk_ (Kd.S_elder' (Kd.S_below HO313.out lt_) (Kd.R_base ho0) hb); have HO316 := mk_ (Kd.R_lower ho0 (below_size (below_at HB.out))); replace HB := mk_ (below_step (below_at HB.out) hb); (try clear hb); (try clear hb2); (try clear hk); (try clear hi); (try clear ho0); obtain ⟨Ao20, co20, eo20⟩ := Kd.S_slice HO313.out; subst eo20; obtain ⟨Ao21, co21, eo21⟩ := Kd.R_slice HO316.out; subst eo21) | ((with_reducible refine gate_callee (f := 38) rfl ?_); refine goesL_ (some 35) rfl rfl Try.func38 (by kernel_rfl) rfl #[.int .i64 a0, .slice Ao20 t311.length co20, .slice Ao21 t314.length co21] rfl gl_ ?_; (with_reducible refine (spec_FindProof.calls k a0 _ _ t311 _ _ t314 t317 t318 t321 _ ?side1 ?side2 ?side3 ?side4 A12.out).mono ?_); (case side1 => exact Kd.C_below (Kd.S_reads' HO313.out).2.2 lt_); (case side2 => exact (Kd.S_reads' HO313.out).2.1); (case side3 => exact Kd.C_below (Kd.R_reads' HO316.out).2.2 lt_); (case side4 => exact (Kd.R_reads' HO316.out).2.1); rintro e w22 ⟨v319, rfl, ho0, hb⟩; refine ⟨_, rfl, ?_⟩; replace HO313 := mk_ (Kd.S_below (Kd.S_below HO313.out lt_) hb); replace HO316 := mk_ (Kd.R_below (Kd.R_below HO316.out lt_) hb); have HO320 := mk_ (Kd.R_lower ho0 (below_size (below_at HB.out))); replace HB := mk_ (below_step (below_at HB.out) hb); (try clear hb); (try clear hb2); (try clear hk); (try clear hi); (try clear ho0)) | ((with_reducible refine gate_dst (N := 8) rfl ?_); refine box_event ?hg (N := 8) ?hd (cs := #[.int .i64 0, .slice none 0 0]) (t := 51) ?hr ?_; (case hd => rfl); (case hg => rfl); (case hr => first | (go_simp; done) | (go_simp; rfl)); intro gb322 hg w23 hbox hb; replace HO313 := mk_ (Kd.S_below (Kd.S_below HO313.out lt_) hb); replace HO316 := mk_ (Kd.R_below (Kd.R_below HO316.out lt_) hb); replace HO320 := mk_ (Kd.R_below (Kd.R_below HO320.out lt_) hb); have BK322 := mk_ (hbox); have GW322 := mk_ (gb_ hg HB.out); have GE322 := mk_ (gb_ hg HB.out); replace HB := mk_ (below_step (below_at HB.out) hb); clear hb hbox hg; have hcz24_0 := blk_cell BK322.out 0; have hcz24_1 := blk_cell BK322.out 1; have hfz24_0 := blk_frozen BK322.out 0; have hfz24_1 := blk_frozen BK322.out 1; obtain ⟨Ao25, co25, eo25⟩ := Kd.R_slice HO320.out; subst eo25) | ((with_reducible refine gate_callee (f := 14) rfl ?_); refine goesL_ (some 39) rfl rfl Try.func14 (by kernel_rfl) rfl #[.slice A1 l1.length c1] rfl gl_ ?_; (with_reducible refine (laws_toClaimS.calls k _ _ l1 t323 _ ?side1 ?side2 A13.out).mono ?_); (case side1 => exact Kd.C_below HR1.out (at_ HB.out)); (case side2 => exact HC1.out); rintro e w26 ⟨v324, rfl, ho0, hb⟩; refine ⟨_, rfl, ?_⟩; replace HO320 := mk_ (Kd.R_below (by (with_reducible repeat (first | apply Kd.R_alloc | apply Kd.R_drewN | apply Kd.R_drew)); exact (Kd.R_mono (Kd.R_far (p := ⟨gb322, 1, none⟩) (Kd.R_far (p := ⟨gb322, 0, none⟩) (Kd.R_types HO320.out BK322.out (by decide)) (fun _ hk => hk.2) (.int .i64 t317)) (fun _ hk => hk.2) (.slice Ao25 t318.length co25)) (fun _ h_ => h_.1))) hb); have HO325 := mk_ (Kd.S_lower (Kd.S_new' (Kd.S_new' ho0 (Kd.S_lt (by (with_reducible repeat (first | apply Kd.S_alloc | apply Kd.S_drewN | apply Kd.S_drew)); exact (Kd.S_mono (Kd.S_far (p := ⟨gb322, 1, none⟩) (Kd.S_far (p := ⟨gb322, 0, none⟩) (Kd.S_types HO313.out BK322.out (by decide)) (fun _ hk => hk.2) (.int .i64 t317)) (fun _ hk => hk.2) (.slice Ao25 t318.length co25)) (fun _ h_ => h_.1))))) (Kd.R_lt (by (with_reducible repeat (first | apply Kd.R_alloc | apply Kd.R_drewN | apply Kd.R_drew)); exact (Kd.R_mono (Kd.R_far (p := ⟨gb322, 1, none⟩) (Kd.R_far (p := ⟨gb322, 0, none⟩) (Kd.R_types HO316.out BK322.out (by decide)) (fun _ hk => hk.2) (.int .i64 t317)) (fun _ hk => hk.2) (.slice Ao25 t318.length co25)) (fun _ h_ => h_.1))))) (below_size (at_ HB.out))); replace HO316 := mk_ (Kd.R_below (by (with_reducible repeat (first | apply Kd.R_alloc | apply Kd.R_drewN | apply Kd.R_drew)); exact (Kd.R_mono (Kd.R_far (p := ⟨gb322, 1, none⟩) (Kd.R_far (p := ⟨gb322, 0, none⟩) (Kd.R_types HO316.out BK322.out (by decide)) (fun _ hk => hk.2) (.int .i64 t317)) (fun _ hk => hk.2) (.slice Ao25 t318.length co25)) (fun _ h_ => h_.1))) hb); replace BK322 := mk_ (blk_below (g := gb322) (o := .cells #[.int .i64 t317, .slice Ao25 t318.length co25] 51 (0, 0)) (by (with_reducible repeat (first | refine blk_drewN ?_ _ | refine blk_drew ?_ | refine blk_alloc ?_ _)); refine blk_put (cs := #[.int .i64 t317, .slice none 0 0]) ?_ 1 _ rfl; (with_reducible repeat (first | refine blk_drewN ?_ _ | refine blk_drew ?_ | refine blk_alloc ?_ _)); refine blk_put (cs := #[.int .i64 0, .slice none 0 0]) ?_ 0 _ rfl; (with_reducible repeat (first | refine blk_drewN ?_ _ | refine blk_drew ?_ | refine blk_alloc ?_ _)); exact BK322.out) hb); replace HB := mk_ (below_step (at_ HB.out) hb); (try clear HO313); (try clear hb); (try clear hb2); (try clear hk); (try clear hi); (try clear ho0)) | ((with_reducible refine gate_callee (f := 33) rfl ?_); refine goesL_ (some 41) rfl rfl Try.func33 (by kernel_rfl) rfl #[.slice A2 l2.length c2] rfl gl_ ?_; (with_reducible refine (laws_toMarkS.calls k _ _ l2 t326 _ ?side1 ?side2 A14.out).mono ?_); (case side1 => exact Kd.C_below (Kd.C_below HR2.out HB.out) lt_); (case side2 => exact HC2.out); rintro e w27 ⟨v327, rfl, ho0, hb⟩; refine ⟨_, rfl, ?_⟩; replace HO320 := mk_ (Kd.R_below (Kd.R_below HO320.out lt_) hb); replace HO325 := mk_ (Kd.S_elder' (Kd.S_below HO325.out lt_) (Kd.R_base ho0) hb); have HO328 := mk_ (Kd.R_lower (Kd.R_new' ho0 (Kd.R_lt (Kd.R_below HO316.out lt_))) (below_size (at_ HB.out))); replace BK322 := mk_ (blk_at BK322.out hb); replace HB := mk_ (below_step (at_ HB.out) hb); (try clear HO313 HO316); (try clear hb); (try clear hb2); (try clear hk); (try clear hi); (try clear ho0); obtain ⟨Ao28, co28, eo28⟩ := Kd.S_slice HO325.out; subst eo28; obtain ⟨Ao29, co29, eo29⟩ := Kd.R_slice HO328.out; subst eo29) | ((with_reducible refine gate_callee (f := 29) rfl ?_); refine goesL_ (some 46) rfl rfl Try.func29 (by kernel_rfl) rfl #[.int .i64 a0, .slice Ao28 t323.length co28, .slice Ao29 t326.length co29] rfl gl_ ?_; (with_reducible refine (impl_FindProof.calls a0 _ _ t323 _ _ t326 t329 t330 t333 _ ?side1 ?side2 ?side3 ?side4 A15.out).mono ?_); (case side1 => exact Kd.C_below (Kd.S_reads' HO325.out).2.2 lt_); (case side2 => exact (Kd.S_reads' HO325.out).2.1); (case side3 => exact Kd.C_below (Kd.R_reads' HO328.out).2.2 lt_); (case side4 => exact (Kd.R_reads' HO328.out).2.1); rintro e w30 ⟨v331, rfl, ho0, hb⟩; refine ⟨_, rfl, ?_⟩; replace HO325 := mk_ (Kd.S_below (Kd.S_below HO325.out lt_) hb); replace HO328 := mk_ (Kd.R_below (Kd.R_below HO328.out lt_) hb); have HO332 := mk_ (Kd.R_lower (Kd.R_new' ho0 (Kd.R_lt (Kd.R_below HO320.out lt_))) (below_size (at_ HB.out))); replace HO320 := mk_ (Kd.R_elder' (Kd.R_below HO320.out lt_) (Kd.R_base ho0) hb); replace BK322 := mk_ (blk_at BK322.out hb); replace HB := mk_ (below_step (at_ HB.out) hb); (try clear HO313 HO316); (try clear hb); (try clear hb2); (try clear hk); (try clear hi); (try clear ho0)) | ((with_reducible refine gate_dst (N := 12) rfl ?_); refine box_event ?hg (N := 12) ?hd (cs := #[.int .i64 0, .slice none 0 0]) (t := 51) ?hr ?_; (case hd => rfl); (case hg => rfl); (case hr => first | (go_simp; done) | (go_simp; rfl)); intro gb334 hg w31 hbox hb; replace HO320 := mk_ (Kd.R_below (Kd.R_below HO320.out lt_) hb); replace HO325 := mk_ (Kd.S_below (Kd.S_below HO325.out lt_) hb); replace HO328 := mk_ (Kd.R_below (Kd.R_below HO328.out lt_) hb); replace HO332 := mk_ (Kd.R_below (Kd.R_below HO332.out lt_) hb); have BK334 := mk_ (hbox); have GW334 := mk_ ((by rw [hg]; exact (below_size (at_ HB.out)) : w.heap.size ≤ gb334)); have GE334 := mk_ ((by rw [hg]; exact (below_size (at_ HB.out)) : w.heap.size ≤ gb334)); replace HB := mk_ (below_step (at_ HB.out) hb); have NB322_334 := mk_ ((by rw [hg]; exact Nat.ne_of_lt (blk_lt (g := gb322) (o := .cells #[.int .i64 t317, .slice Ao25 t318.length co25] 51 (0, 0)) (bk_ BK322.out)) : gb322 ≠ gb334)); have NB334_322 := mk_ ((by rw [hg]; exact Nat.ne_of_gt (blk_lt (g := gb322) (o := .cells #[.int .i64 t317, .slice Ao25 t318.length co25] 51 (0, 0)) (bk_ BK322.out)) : gb334 ≠ gb322)); replace BK322 := mk_ (blk_at BK322.out hb); (try clear HO313 HO316); clear hb hbox hg; have hnb32 := NB334_322.out; have hnc32 := NB322_334.out; have hcz33_0 := blk_cell BK334.out 0; have hcz33_1 := blk_cell BK334.out 1; have hfz33_0 := blk_frozen BK334.out 0; have hfz33_1 := blk_frozen BK334.out 1; obtain ⟨Ao34, co34, eo34⟩ := Kd.R_slice HO332.out; subst eo34))
 (try simp only [Act.put, z0_, z1_, z2_])
 go_cut [57] (fun v57 wc => ∃ (kq : Nat) (x57_15 : Bool), v57 = .bool x57_15 ∧ Aside0 (laws_FnExactFindProof.j0 kq a0 l1 l2 t321 t323 t326 t333 x57_15 t317 t318 t329 t330 = some r) ∧ Aside0 (kq ≤ k) ∧ Aside0 (Kd.S k38 38 wc w.heap.size (fun k_ => some k_ ≠ ((.slice Ao29 t326.length co29) : Value).ownBlock) (.slice Ao28 t323.length co28) t323) ∧ Aside0 (Kd.R k47 47 wc w.heap.size (fun _ => True) (.slice Ao29 t326.length co29) t326) ∧ Aside0 (Kd.R k93 93 wc w.heap.size (fun k_ => some k_ ≠ ((.slice Ao34 t330.length co34) : Value).ownBlock) (.slice Ao25 t318.length co25) t318) ∧ Aside0 (Kd.R k93 93 wc w.heap.size (fun k_ => some k_ ≠ ((.slice Ao25 t318.length co25) : Value).ownBlock) (.slice Ao34 t330.length co34) t330) ∧ Aside0 (wc.heap[gb322]? = some (.cells #[.int .i64 t317, (.slice Ao25 t318.length co25)] 51 (0, 0))) ∧ Aside0 (wc.heap[gb334]? = some (.cells #[.int .i64 t329, (.slice Ao34 t330.length co34)] 51 (0, 0))) ∧ Aside0 (Below w.heap.size w wc))
 case first =>
  have H := HC16.out
  clear HC16
  replace H := Option.bind_eq_some_iff.mp H
  obtain ⟨t335, A350, H⟩ := H
  try dsimp only at H
  have A35 := mk_ A350
  clear A350
  by_cases c36 : t335 = true
  ·subst c36
   rw [if_pos rfl] at H
   have H' := mk_ H
   clear H
   have hnb37 := NB334_322.out
   have hnc37 := NB322_334.out
   have hcz38_0 := blk_cell BK334.out 0
   have hcz38_1 := blk_cell BK334.out 1
   have hfz38_0 := blk_frozen BK334.out 0
   have hfz38_1 := blk_frozen BK334.out 1
   have hcz39_0 := blk_cell BK322.out 0
   have hcz39_1 := blk_cell BK322.out 1
   have hfz39_0 := blk_frozen BK322.out 0
   have hfz39_1 := blk_frozen BK322.out 1
   go_wp2_with (first | ((with_reducible refine gate_callee (f := 37) rfl ?_); refine goesL_ (some 51) rfl rfl Try.func37 (by kernel_rfl) rfl #[.agg #[.int .i64 t329, .slice Ao34 t330.length co34], .agg #[.int .i64 t317, .slice Ao25 t318.length co25]] rfl gl_ ?_; (with_reducible refine (laws_eqProof.calls k t329 _ _ t330 t317 _ _ t318 true _ ?side1 ?side2 ?side3 ?side4 A35.out).mono ?_); (case side1 => refine (Kd.R_reads' (e := 93) (base := w.heap.size) (ok := fun k_ => (True ∧ some k_ ≠ (.slice Ao25 t318.length co25 : Value).ownBlock)) (n := t330.length) (c := co34) ?_).2.2; exact (by (with_reducible repeat (first | apply Kd.R_alloc | apply Kd.R_drewN | apply Kd.R_drew)); exact (Kd.R_mono (Kd.R_far (p := ⟨gb334, 1, none⟩) (Kd.R_far (p := ⟨gb334, 0, none⟩) (Kd.R_types HO332.out BK334.out (by decide)) (fun _ hk => hk.2) (.int .i64 t329)) (fun _ hk => hk.2) (.slice Ao34 t330.length co34)) (fun _ h_ => h_.1)))); (case side2 => exact (Kd.R_reads' HO332.out).2.1); (case side3 => refine (Kd.R_reads' (e := 93) (base := w.heap.size) (ok := fun k_ => (True ∧ some k_ ≠ (.slice Ao34 t330.length co34 : Value).ownBlock)) (n := t318.length) (c := co25) ?_).2.2; exact (by (with_reducible repeat (first | apply Kd.R_alloc | apply Kd.R_drewN | apply Kd.R_drew)); exact (Kd.R_mono (Kd.R_far (p := ⟨gb334, 1, none⟩) (Kd.R_far (p := ⟨gb334, 0, none⟩) (Kd.R_types HO320.out BK334.out (by decide)) (fun _ hk => hk.2) (.int .i64 t329)) (fun _ hk => hk.2) (.slice Ao34 t330.length co34)) (fun _ h_ => h_.1)))); (case side4 => exact (Kd.R_reads' HO320.out).2.1); rintro e w40 ⟨rfl, hb⟩; refine ⟨_, rfl, ?_⟩; replace HO320 := mk_ (Kd.R_below (by (with_reducible repeat (first | apply Kd.R_alloc | apply Kd.R_drewN | apply Kd.R_drew)); exact (Kd.R_mono (Kd.R_far (p := ⟨gb334, 1, none⟩) (Kd.R_far (p := ⟨gb334, 0, none⟩) (Kd.R_types HO320.out BK334.out (by decide)) (fun _ hk => hk.2) (.int .i64 t329)) (fun _ hk => hk.2) (.slice Ao34 t330.length co34)) (fun _ h_ => h_.1))) hb); replace HO325 := mk_ (Kd.S_below (by (with_reducible repeat (first | apply Kd.S_alloc | apply Kd.S_drewN | apply Kd.S_drew)); exact (Kd.S_mono (Kd.S_far (p := ⟨gb334, 1, none⟩) (Kd.S_far (p := ⟨gb334, 0, none⟩) (Kd.S_types HO325.out BK334.out (by decide)) (fun _ hk => hk.2) (.int .i64 t329)) (fun _ hk => hk.2) (.slice Ao34 t330.length co34)) (fun _ h_ => h_.1))) hb); replace HO328 := mk_ (Kd.R_below (by (with_reducible repeat (first | apply Kd.R_alloc | apply Kd.R_drewN | apply Kd.R_drew)); exact (Kd.R_mono (Kd.R_far (p := ⟨gb334, 1, none⟩) (Kd.R_far (p := ⟨gb334, 0, none⟩) (Kd.R_types HO328.out BK334.out (by decide)) (fun _ hk => hk.2) (.int .i64 t329)) (fun _ hk => hk.2) (.slice Ao34 t330.length co34)) (fun _ h_ => h_.1))) hb); replace HO332 := mk_ (Kd.R_below (by (with_reducible repeat (first | apply Kd.R_alloc | apply Kd.R_drewN | apply Kd.R_drew)); exact (Kd.R_mono (Kd.R_far (p := ⟨gb334, 1, none⟩) (Kd.R_far (p := ⟨gb334, 0, none⟩) (Kd.R_types HO332.out BK334.out (by decide)) (fun _ hk => hk.2) (.int .i64 t329)) (fun _ hk => hk.2) (.slice Ao34 t330.length co34)) (fun _ h_ => h_.1))) hb); replace BK322 := mk_ (blk_below (g := gb322) (o := .cells #[.int .i64 t317, .slice Ao25 t318.length co25] 51 (0, 0)) (by (with_reducible repeat (first | refine blk_drewN ?_ _ | refine blk_drew ?_ | refine blk_alloc ?_ _)); refine blk_far ?_ NB322_334.out _; (with_reducible repeat (first | refine blk_drewN ?_ _ | refine blk_drew ?_ | refine blk_alloc ?_ _)); refine blk_far ?_ NB322_334.out _; (with_reducible repeat (first | refine blk_drewN ?_ _ | refine blk_drew ?_ | refine blk_alloc ?_ _)); exact BK322.out) hb); replace BK334 := mk_ (blk_below (g := gb334) (o := .cells #[.int .i64 t329, .slice Ao34 t330.length co34] 51 (0, 0)) (by (with_reducible repeat (first | refine blk_drewN ?_ _ | refine blk_drew ?_ | refine blk_alloc ?_ _)); refine blk_put (cs := #[.int .i64 t329, .slice none 0 0]) ?_ 1 _ rfl; (with_reducible repeat (first | refine blk_drewN ?_ _ | refine blk_drew ?_ | refine blk_alloc ?_ _)); refine blk_put (cs := #[.int .i64 0, .slice none 0 0]) ?_ 0 _ rfl; (with_reducible repeat (first | refine blk_drewN ?_ _ | refine blk_drew ?_ | refine blk_alloc ?_ _)); exact BK334.out) hb); replace HB := mk_ (below_step (at_ HB.out) hb); (try clear HO313 HO316); (try clear hb); (try clear hb2); (try clear hk); (try clear hi)))
   go_meet
   case rel => exact ⟨_, ((t333 != t321)), (by first | rfl | (simp; done) | (simp [*]; done)), H', ⟨by first | omega | exact Nat.le_refl _⟩, ⟨Kd.S_below (Kd.S_mono HO325.out (fun _ hk => hk.2)) lt_⟩, ⟨Kd.R_below (Kd.R_mono HO328.out (fun _ hk => trivial)) lt_⟩, ⟨Kd.R_below (Kd.R_mono HO320.out (fun _ hk => hk.2)) lt_⟩, ⟨Kd.R_below (Kd.R_mono HO332.out (fun _ hk => hk.2)) lt_⟩, ⟨by (with_reducible repeat (first | refine blk_drewN ?_ _ | refine blk_drew ?_ | refine blk_alloc ?_ _)); exact BK322.out⟩, ⟨by (with_reducible repeat (first | refine blk_drewN ?_ _ | refine blk_drew ?_ | refine blk_alloc ?_ _)); exact BK334.out⟩, ⟨at_ HB.out⟩⟩
  replace c36 := Bool.eq_false_iff.mpr c36
  subst c36
  rw [if_neg (show ¬ (false = true) by decide)] at H
  have H' := mk_ H
  clear H
  have hnb41 := NB334_322.out
  have hnc41 := NB322_334.out
  have hcz42_0 := blk_cell BK334.out 0
  have hcz42_1 := blk_cell BK334.out 1
  have hfz42_0 := blk_frozen BK334.out 0
  have hfz42_1 := blk_frozen BK334.out 1
  have hcz43_0 := blk_cell BK322.out 0
  have hcz43_1 := blk_cell BK322.out 1
  have hfz43_0 := blk_frozen BK322.out 0
  have hfz43_1 := blk_frozen BK322.out 1
  go_wp2_with (first | ((with_reducible refine gate_callee (f := 37) rfl ?_); refine goesL_ (some 51) rfl rfl Try.func37 (by kernel_rfl) rfl #[.agg #[.int .i64 t329, .slice Ao34 t330.length co34], .agg #[.int .i64 t317, .slice Ao25 t318.length co25]] rfl gl_ ?_; (with_reducible refine (laws_eqProof.calls k t329 _ _ t330 t317 _ _ t318 false _ ?side1 ?side2 ?side3 ?side4 A35.out).mono ?_); (case side1 => refine (Kd.R_reads' (e := 93) (base := w.heap.size) (ok := fun k_ => (True ∧ some k_ ≠ (.slice Ao25 t318.length co25 : Value).ownBlock)) (n := t330.length) (c := co34) ?_).2.2; exact (by (with_reducible repeat (first | apply Kd.R_alloc | apply Kd.R_drewN | apply Kd.R_drew)); exact (Kd.R_mono (Kd.R_far (p := ⟨gb334, 1, none⟩) (Kd.R_far (p := ⟨gb334, 0, none⟩) (Kd.R_types HO332.out BK334.out (by decide)) (fun _ hk => hk.2) (.int .i64 t329)) (fun _ hk => hk.2) (.slice Ao34 t330.length co34)) (fun _ h_ => h_.1)))); (case side2 => exact (Kd.R_reads' HO332.out).2.1); (case side3 => refine (Kd.R_reads' (e := 93) (base := w.heap.size) (ok := fun k_ => (True ∧ some k_ ≠ (.slice Ao34 t330.length co34 : Value).ownBlock)) (n := t318.length) (c := co25) ?_).2.2; exact (by (with_reducible repeat (first | apply Kd.R_alloc | apply Kd.R_drewN | apply Kd.R_drew)); exact (Kd.R_mono (Kd.R_far (p := ⟨gb334, 1, none⟩) (Kd.R_far (p := ⟨gb334, 0, none⟩) (Kd.R_types HO320.out BK334.out (by decide)) (fun _ hk => hk.2) (.int .i64 t329)) (fun _ hk => hk.2) (.slice Ao34 t330.length co34)) (fun _ h_ => h_.1)))); (case side4 => exact (Kd.R_reads' HO320.out).2.1); rintro e w44 ⟨rfl, hb⟩; refine ⟨_, rfl, ?_⟩; replace HO320 := mk_ (Kd.R_below (by (with_reducible repeat (first | apply Kd.R_alloc | apply Kd.R_drewN | apply Kd.R_drew)); exact (Kd.R_mono (Kd.R_far (p := ⟨gb334, 1, none⟩) (Kd.R_far (p := ⟨gb334, 0, none⟩) (Kd.R_types HO320.out BK334.out (by decide)) (fun _ hk => hk.2) (.int .i64 t329)) (fun _ hk => hk.2) (.slice Ao34 t330.length co34)) (fun _ h_ => h_.1))) hb); replace HO325 := mk_ (Kd.S_below (by (with_reducible repeat (first | apply Kd.S_alloc | apply Kd.S_drewN | apply Kd.S_drew)); exact (Kd.S_mono (Kd.S_far (p := ⟨gb334, 1, none⟩) (Kd.S_far (p := ⟨gb334, 0, none⟩) (Kd.S_types HO325.out BK334.out (by decide)) (fun _ hk => hk.2) (.int .i64 t329)) (fun _ hk => hk.2) (.slice Ao34 t330.length co34)) (fun _ h_ => h_.1))) hb); replace HO328 := mk_ (Kd.R_below (by (with_reducible repeat (first | apply Kd.R_alloc | apply Kd.R_drewN | apply Kd.R_drew)); exact (Kd.R_mono (Kd.R_far (p := ⟨gb334, 1, none⟩) (Kd.R_far (p := ⟨gb334, 0, none⟩) (Kd.R_types HO328.out BK334.out (by decide)) (fun _ hk => hk.2) (.int .i64 t329)) (fun _ hk => hk.2) (.slice Ao34 t330.length co34)) (fun _ h_ => h_.1))) hb); replace HO332 := mk_ (Kd.R_below (by (with_reducible repeat (first | apply Kd.R_alloc | apply Kd.R_drewN | apply Kd.R_drew)); exact (Kd.R_mono (Kd.R_far (p := ⟨gb334, 1, none⟩) (Kd.R_far (p := ⟨gb334, 0, none⟩) (Kd.R_types HO332.out BK334.out (by decide)) (fun _ hk => hk.2) (.int .i64 t329)) (fun _ hk => hk.2) (.slice Ao34 t330.length co34)) (fun _ h_ => h_.1))) hb); replace BK322 := mk_ (blk_below (g := gb322) (o := .cells #[.int .i64 t317, .slice Ao25 t318.length co25] 51 (0, 0)) (by (with_reducible repeat (first | refine blk_drewN ?_ _ | refine blk_drew ?_ | refine blk_alloc ?_ _)); refine blk_far ?_ NB322_334.out _; (with_reducible repeat (first | refine blk_drewN ?_ _ | refine blk_drew ?_ | refine blk_alloc ?_ _)); refine blk_far ?_ NB322_334.out _; (with_reducible repeat (first | refine blk_drewN ?_ _ | refine blk_drew ?_ | refine blk_alloc ?_ _)); exact BK322.out) hb); replace BK334 := mk_ (blk_below (g := gb334) (o := .cells #[.int .i64 t329, .slice Ao34 t330.length co34] 51 (0, 0)) (by (with_reducible repeat (first | refine blk_drewN ?_ _ | refine blk_drew ?_ | refine blk_alloc ?_ _)); refine blk_put (cs := #[.int .i64 t329, .slice none 0 0]) ?_ 1 _ rfl; (with_reducible repeat (first | refine blk_drewN ?_ _ | refine blk_drew ?_ | refine blk_alloc ?_ _)); refine blk_put (cs := #[.int .i64 0, .slice none 0 0]) ?_ 0 _ rfl; (with_reducible repeat (first | refine blk_drewN ?_ _ | refine blk_drew ?_ | refine blk_alloc ?_ _)); exact BK334.out) hb); replace HB := mk_ (below_step (at_ HB.out) hb); (try clear HO313 HO316); (try clear hb); (try clear hb2); (try clear hk); (try clear hi)))
  go_meet
  case rel => exact ⟨_, (true), (by first | rfl | (simp; done) | (simp [*]; done)), H', ⟨by first | omega | exact Nat.le_refl _⟩, ⟨Kd.S_below (Kd.S_mono HO325.out (fun _ hk => hk.2)) lt_⟩, ⟨Kd.R_below (Kd.R_mono HO328.out (fun _ hk => trivial)) lt_⟩, ⟨Kd.R_below (Kd.R_mono HO320.out (fun _ hk => hk.2)) lt_⟩, ⟨Kd.R_below (Kd.R_mono HO332.out (fun _ hk => hk.2)) lt_⟩, ⟨by (with_reducible repeat (first | refine blk_drewN ?_ _ | refine blk_drew ?_ | refine blk_alloc ?_ _)); exact BK322.out⟩, ⟨by (with_reducible repeat (first | refine blk_drewN ?_ _ | refine blk_drew ?_ | refine blk_alloc ?_ _)); exact BK334.out⟩, ⟨at_ HB.out⟩⟩
 clear HC16
 try clear c1
 try clear c2
 try clear p2
 try clear c3
 try clear c4
 try clear c5
 try clear c5b0
 try clear c8
 try clear c8b0
 try clear c9
 try clear c12
 try clear c14
 try clear c29
 try clear c30
 try clear c32
 try clear c33
 try clear c36
 try clear c37
 try clear c38
 try clear c41
 try clear hcz24_0
 try clear hcz24_1
 try clear hcz33_0
 try clear hcz33_1
 try clear hcz38_0
 try clear hcz38_1
 try clear hcz39_0
 try clear hcz39_1
 try clear hcz42_0
 try clear hcz42_1
 try clear hcz43_0
 try clear hcz43_1
 try clear hfz24_0
 try clear hfz24_1
 try clear hfz33_0
 try clear hfz33_1
 try clear hfz38_0
 try clear hfz38_1
 try clear hfz39_0
 try clear hfz39_1
 try clear hfz42_0
 try clear hfz42_1
 try clear hfz43_0
 try clear hfz43_1
 obtain ⟨kq, x57_15, rfl, HA, HJ15, HO_10, HO_11, HO_323001, HO_335001, BK322, BK334, HB⟩ := hcut
 cases kq with
 | zero => exact absurd HA.out (by simp [laws_FnExactFindProof.j0])
 | succ kj15 =>
  have H := HA.out
  clear HA
  simp only [laws_FnExactFindProof.j0] at H
  by_cases c45 : x57_15 = true
  ·subst c45
   rw [if_pos rfl] at H
   obtain rfl := Option.some.inj H
   go_wp2
   go_ret
   exact ⟨er_, at_ HB.out⟩
  replace c45 := Bool.eq_false_iff.mpr c45
  subst c45
  rw [if_neg (show ¬ (false = true) by decide)] at H
  replace H := Option.bind_eq_some_iff.mp H
  obtain ⟨t336, A460, H⟩ := H
  try dsimp only at H
  have A46 := mk_ A460
  clear A460
  replace H := Option.bind_eq_some_iff.mp H
  obtain ⟨t339, A470, H⟩ := H
  try dsimp only at H
  have A47 := mk_ A470
  clear A470
  by_cases c48 : t339 = true
  rotate_left
  ·replace c48 := Bool.eq_false_iff.mpr c48
   subst c48
   rw [if_neg (show ¬ (false = true) by decide)] at H
   obtain rfl := Option.some.inj H
   go_wp2_with (first | ((with_reducible refine gate_callee (f := 14) rfl ?_); refine goesL_ (some 60) rfl rfl Try.func14 (by kernel_rfl) rfl #[.slice A1 l1.length c1] rfl gl_ ?_; (with_reducible refine (laws_toClaimS.calls kj15 _ _ l1 t336 _ ?side1 ?side2 A46.out).mono ?_); (case side1 => exact Kd.C_below (Kd.C_below HR1.out HB.out) lt_); (case side2 => exact HC1.out); rintro e w144 ⟨v337, rfl, ho0, hb⟩; refine ⟨_, rfl, ?_⟩; have HO338 := mk_ (Kd.S_lower (Kd.S_new' (Kd.S_new' ho0 (Kd.S_lt (Kd.S_below HO_10.out lt_))) (Kd.R_lt (Kd.R_below HO_11.out lt_))) (below_size (at_ HB.out))); replace HO_10 := mk_ (Kd.S_elder' (Kd.S_below HO_10.out lt_) (Kd.S_base ho0) hb); replace HB := mk_ (below_step (at_ HB.out) hb); (try clear HO_11 HO_323001 HO_335001 BK322 BK334); (try clear hb); (try clear hb2); (try clear hk); (try clear hi); (try clear ho0); obtain ⟨Ao145, co145, eo145⟩ := Kd.S_slice HO338.out; subst eo145) | ((with_reducible refine gate_callee (f := 16) rfl ?_); refine goesL_ (some 61) rfl rfl Try.func16 (by kernel_rfl) rfl #[.slice Ao28 t323.length co28, .slice Ao145 t336.length co145] rfl gl_ ?_; (with_reducible refine (laws_eqClaimS.calls kj15 _ _ t323 _ _ t336 false _ ?side1 ?side2 ?side3 ?side4 A47.out).mono ?_); (case side1 => exact Kd.C_below (Kd.S_reads' HO_10.out).2.2 lt_); (case side2 => exact (Kd.S_reads' HO_10.out).2.1); (case side3 => exact Kd.C_below (Kd.S_reads' HO338.out).2.2 lt_); (case side4 => exact (Kd.S_reads' HO338.out).2.1); rintro e w146 ⟨rfl, hb⟩; refine ⟨_, rfl, ?_⟩; replace HB := mk_ (below_step (at_ HB.out) hb); (try clear HO_10 HO_11 HO_323001 HO_335001 HO338 BK322 BK334); (try clear hb); (try clear hb2); (try clear hk); (try clear hi)))
   go_ret
   exact ⟨er_, at_ HB.out⟩
  subst c48
  rw [if_pos rfl] at H
  replace H := Option.bind_eq_some_iff.mp H
  obtain ⟨t340, A490, H⟩ := H
  try dsimp only at H
  have A49 := mk_ A490
  clear A490
  replace H := Option.bind_eq_some_iff.mp H
  obtain ⟨t343, A500, H⟩ := H
  try dsimp only at H
  have A50 := mk_ A500
  clear A500
  by_cases c51 : t343 = true
  rotate_left
  ·replace c51 := Bool.eq_false_iff.mpr c51
   subst c51
   rw [if_neg (show ¬ (false = true) by decide)] at H
   obtain rfl := Option.some.inj H
   go_wp2_with (first | ((with_reducible refine gate_callee (f := 14) rfl ?_); refine goesL_ (some 60) rfl rfl Try.func14 (by kernel_rfl) rfl #[.slice A1 l1.length c1] rfl gl_ ?_; (with_reducible refine (laws_toClaimS.calls kj15 _ _ l1 t336 _ ?side1 ?side2 A46.out).mono ?_); (case side1 => exact Kd.C_below (Kd.C_below HR1.out HB.out) lt_); (case side2 => exact HC1.out); rintro e w138 ⟨v337, rfl, ho0, hb⟩; refine ⟨_, rfl, ?_⟩; have HO338 := mk_ (Kd.S_lower (Kd.S_new' (Kd.S_new' ho0 (Kd.S_lt (Kd.S_below HO_10.out lt_))) (Kd.R_lt (Kd.R_below HO_11.out lt_))) (below_size (at_ HB.out))); replace HO_10 := mk_ (Kd.S_elder' (Kd.S_below HO_10.out lt_) (Kd.S_base ho0) hb); replace HO_11 := mk_ (Kd.R_below (Kd.R_below HO_11.out lt_) hb); replace HB := mk_ (below_step (at_ HB.out) hb); (try clear HO_323001 HO_335001 BK322 BK334); (try clear hb); (try clear hb2); (try clear hk); (try clear hi); (try clear ho0); obtain ⟨Ao139, co139, eo139⟩ := Kd.S_slice HO338.out; subst eo139) | ((with_reducible refine gate_callee (f := 16) rfl ?_); refine goesL_ (some 61) rfl rfl Try.func16 (by kernel_rfl) rfl #[.slice Ao28 t323.length co28, .slice Ao139 t336.length co139] rfl gl_ ?_; (with_reducible refine (laws_eqClaimS.calls kj15 _ _ t323 _ _ t336 true _ ?side1 ?side2 ?side3 ?side4 A47.out).mono ?_); (case side1 => exact Kd.C_below (Kd.S_reads' HO_10.out).2.2 lt_); (case side2 => exact (Kd.S_reads' HO_10.out).2.1); (case side3 => exact Kd.C_below (Kd.S_reads' HO338.out).2.2 lt_); (case side4 => exact (Kd.S_reads' HO338.out).2.1); rintro e w140 ⟨rfl, hb⟩; refine ⟨_, rfl, ?_⟩; replace HO_11 := mk_ (Kd.R_below (Kd.R_below HO_11.out lt_) hb); replace HB := mk_ (below_step (at_ HB.out) hb); (try clear HO_10 HO_323001 HO_335001 HO338 BK322 BK334); (try clear hb); (try clear hb2); (try clear hk); (try clear hi)) | ((with_reducible refine gate_callee (f := 33) rfl ?_); refine goesL_ (some 65) rfl rfl Try.func33 (by kernel_rfl) rfl #[.slice A2 l2.length c2] rfl gl_ ?_; (with_reducible refine (laws_toMarkS.calls kj15 _ _ l2 t340 _ ?side1 ?side2 A49.out).mono ?_); (case side1 => exact Kd.C_below (Kd.C_below HR2.out HB.out) lt_); (case side2 => exact HC2.out); rintro e w141 ⟨v341, rfl, ho0, hb⟩; refine ⟨_, rfl, ?_⟩; have HO342 := mk_ (Kd.R_lower (Kd.R_new' ho0 (Kd.R_lt (Kd.R_below HO_11.out lt_))) (below_size (at_ HB.out))); replace HO_11 := mk_ (Kd.R_elder' (Kd.R_below HO_11.out lt_) (Kd.R_base ho0) hb); replace HB := mk_ (below_step (at_ HB.out) hb); (try clear HO_10 HO_323001 HO_335001 HO338 BK322 BK334); (try clear hb); (try clear hb2); (try clear hk); (try clear hi); (try clear ho0); obtain ⟨Ao142, co142, eo142⟩ := Kd.R_slice HO342.out; subst eo142) | ((with_reducible refine gate_callee (f := 36) rfl ?_); refine goesL_ (some 66) rfl rfl Try.func36 (by kernel_rfl) rfl #[.slice Ao29 t326.length co29, .slice Ao142 t340.length co142] rfl gl_ ?_; (with_reducible refine (laws_eqMarkS.calls kj15 _ _ t326 _ _ t340 false _ ?side1 ?side2 ?side3 ?side4 A50.out).mono ?_); (case side1 => exact Kd.C_below (Kd.R_reads' HO_11.out).2.2 lt_); (case side2 => exact (Kd.R_reads' HO_11.out).2.1); (case side3 => exact Kd.C_below (Kd.R_reads' HO342.out).2.2 lt_); (case side4 => exact (Kd.R_reads' HO342.out).2.1); rintro e w143 ⟨rfl, hb⟩; refine ⟨_, rfl, ?_⟩; replace HB := mk_ (below_step (at_ HB.out) hb); (try clear HO_10 HO_11 HO_323001 HO_335001 HO338 HO342 BK322 BK334); (try clear hb); (try clear hb2); (try clear hk); (try clear hi)))
   go_ret
   exact ⟨er_, at_ HB.out⟩
  subst c51
  rw [if_pos rfl] at H
  replace H := Option.bind_eq_some_iff.mp H
  obtain ⟨⟨t344, tM⟩, A520, H⟩ := H
  try dsimp only at H
  have A52 := mk_ A520
  clear A520
  replace H := Option.bind_eq_some_iff.mp H
  obtain ⟨⟨t345, t346⟩, A530, H⟩ := H
  try dsimp only at H
  have A53 := mk_ A530
  clear A530
  have HC54 := mk_ H
  clear H
  go_upto_region 21 with (first | ((with_reducible refine gate_callee (f := 14) rfl ?_); refine goesL_ (some 60) rfl rfl Try.func14 (by kernel_rfl) rfl #[.slice A1 l1.length c1] rfl gl_ ?_; (with_reducible refine (laws_toClaimS.calls kj15 _ _ l1 t336 _ ?side1 ?side2 A46.out).mono ?_); (case side1 => exact Kd.C_below (Kd.C_below HR1.out HB.out) lt_); (case side2 => exact HC1.out); rintro e w55 ⟨v337, rfl, ho0, hb⟩; refine ⟨_, rfl, ?_⟩; replace HO_323001 := mk_ (Kd.R_below (Kd.R_below HO_323001.out lt_) hb); replace HO_335001 := mk_ (Kd.R_below (Kd.R_below HO_335001.out lt_) hb); have HO338 := mk_ (Kd.S_lower (Kd.S_new' (Kd.S_new' ho0 (Kd.S_lt (Kd.S_below HO_10.out lt_))) (Kd.R_lt (Kd.R_below HO_11.out lt_))) (below_size (at_ HB.out))); replace HO_10 := mk_ (Kd.S_elder' (Kd.S_below HO_10.out lt_) (Kd.S_base ho0) hb); replace HO_11 := mk_ (Kd.R_below (Kd.R_below HO_11.out lt_) hb); replace BK322 := mk_ (blk_at BK322.out hb); replace BK334 := mk_ (blk_at BK334.out hb); replace HB := mk_ (below_step (at_ HB.out) hb); (try clear hb); (try clear hb2); (try clear hk); (try clear hi); (try clear ho0); obtain ⟨Ao56, co56, eo56⟩ := Kd.S_slice HO338.out; subst eo56) | ((with_reducible refine gate_callee (f := 16) rfl ?_); refine goesL_ (some 61) rfl rfl Try.func16 (by kernel_rfl) rfl #[.slice Ao28 t323.length co28, .slice Ao56 t336.length co56] rfl gl_ ?_; (with_reducible refine (laws_eqClaimS.calls kj15 _ _ t323 _ _ t336 true _ ?side1 ?side2 ?side3 ?side4 A47.out).mono ?_); (case side1 => exact Kd.C_below (Kd.S_reads' HO_10.out).2.2 lt_); (case side2 => exact (Kd.S_reads' HO_10.out).2.1); (case side3 => exact Kd.C_below (Kd.S_reads' HO338.out).2.2 lt_); (case side4 => exact (Kd.S_reads' HO338.out).2.1); rintro e w57 ⟨rfl, hb⟩; refine ⟨_, rfl, ?_⟩; replace HO_10 := mk_ (Kd.S_below (Kd.S_below HO_10.out lt_) hb); replace HO_11 := mk_ (Kd.R_below (Kd.R_below HO_11.out lt_) hb); replace HO_323001 := mk_ (Kd.R_below (Kd.R_below HO_323001.out lt_) hb); replace HO_335001 := mk_ (Kd.R_below (Kd.R_below HO_335001.out lt_) hb); replace BK322 := mk_ (blk_at BK322.out hb); replace BK334 := mk_ (blk_at BK334.out hb); replace HB := mk_ (below_step (at_ HB.out) hb); (try clear HO338); (try clear hb); (try clear hb2); (try clear hk); (try clear hi)) | ((with_reducible refine gate_callee (f := 33) rfl ?_); refine goesL_ (some 65) rfl rfl Try.func33 (by kernel_rfl) rfl #[.slice A2 l2.length c2] rfl gl_ ?_; (with_reducible refine (laws_toMarkS.calls kj15 _ _ l2 t340 _ ?side1 ?side2 A49.out).mono ?_); (case side1 => exact Kd.C_below (Kd.C_below HR2.out HB.out) lt_); (case side2 => exact HC2.out); rintro e w58 ⟨v341, rfl, ho0, hb⟩; refine ⟨_, rfl, ?_⟩; replace HO_10 := mk_ (Kd.S_elder' (Kd.S_below HO_10.out lt_) (Kd.R_base ho0) hb); replace HO_323001 := mk_ (Kd.R_below (Kd.R_below HO_323001.out lt_) hb); replace HO_335001 := mk_ (Kd.R_below (Kd.R_below HO_335001.out lt_) hb); have HO342 := mk_ (Kd.R_lower (Kd.R_new' ho0 (Kd.R_lt (Kd.R_below HO_11.out lt_))) (below_size (at_ HB.out))); replace HO_11 := mk_ (Kd.R_elder' (Kd.R_below HO_11.out lt_) (Kd.R_base ho0) hb); replace BK322 := mk_ (blk_at BK322.out hb); replace BK334 := mk_ (blk_at BK334.out hb); replace HB := mk_ (below_step (at_ HB.out) hb); (try clear HO338); (try clear hb); (try clear hb2); (try clear hk); (try clear hi); (try clear ho0); obtain ⟨Ao59, co59, eo59⟩ := Kd.R_slice HO342.out; subst eo59) | ((with_reducible refine gate_callee (f := 36) rfl ?_); refine goesL_ (some 66) rfl rfl Try.func36 (by kernel_rfl) rfl #[.slice Ao29 t326.length co29, .slice Ao59 t340.length co59] rfl gl_ ?_; (with_reducible refine (laws_eqMarkS.calls kj15 _ _ t326 _ _ t340 true _ ?side1 ?side2 ?side3 ?side4 A50.out).mono ?_); (case side1 => exact Kd.C_below (Kd.R_reads' HO_11.out).2.2 lt_); (case side2 => exact (Kd.R_reads' HO_11.out).2.1); (case side3 => exact Kd.C_below (Kd.R_reads' HO342.out).2.2 lt_); (case side4 => exact (Kd.R_reads' HO342.out).2.1); rintro e w60 ⟨rfl, hb⟩; refine ⟨_, rfl, ?_⟩; replace HO_10 := mk_ (Kd.S_below (Kd.S_below HO_10.out lt_) hb); replace HO_11 := mk_ (Kd.R_below (Kd.R_below HO_11.out lt_) hb); replace HO_323001 := mk_ (Kd.R_below (Kd.R_below HO_323001.out lt_) hb); replace HO_335001 := mk_ (Kd.R_below (Kd.R_below HO_335001.out lt_) hb); replace BK322 := mk_ (blk_at BK322.out hb); replace BK334 := mk_ (blk_at BK334.out hb); replace HB := mk_ (below_step (at_ HB.out) hb); (try clear HO338 HO342); (try clear hb); (try clear hb2); (try clear hk); (try clear hi)) | ((with_reducible refine gate_callee (f := 39) rfl ?_); refine goesL_ (some 70) rfl rfl Try.func39 (by kernel_rfl) rfl #[.slice Ao28 t323.length co28, .int .i64 1] rfl gl_ ?_; (with_reducible refine (markC_at (w0 := w) (ok := fun k_ => some k_ ≠ (.slice Ao29 t326.length co29 : Value).ownBlock) kj15 ?side1 ?side2 A52.out).mono ?_); (case side1 => exact at_ HB.out); (case side2 => exact Kd.S_mono HO_10.out (fun k_ h_ => by first | exact h_ | exact h_.1 | exact h_.1.1 | exact h_.1.1.1)); rintro e wM ⟨rfl, hbM, hkM⟩; refine ⟨_, rfl, ?_⟩; replace HO_11 := mk_ (R_sameT rfl HO_11.out hkM); replace HO_323001 := mk_ (R_otherT rfl HO_323001.out hkM (by decide)); replace HO_335001 := mk_ (R_otherT rfl HO_335001.out hkM (by decide)); replace BK322 := mk_ (blk_otherT (bk_ BK322.out) hkM (by decide)); replace BK334 := mk_ (blk_otherT (bk_ BK334.out) hkM (by decide)); replace HB := mk_ hbM; (try clear hbM); (try clear hkM)) | ((with_reducible refine gate_callee (f := 40) rfl ?_); refine goesL_ (some 73) rfl rfl Try.func40 (by kernel_rfl) rfl #[.slice Ao29 t326.length co29, .int .i64 t344] rfl gl_ ?_; (with_reducible refine (laws_markMarkS.calls kj15 (fun k_ => some k_ = (.slice Ao29 t326.length co29 : Value).ownBlock) (.slice Ao29 t326.length co29) t326 t344 t345 t346 w _ ?side1 ?side2 A53.out).mono ?_); (case side1 => exact at_ HB.out); (case side2 => exact Kd.R_tight rfl HO_11.out); rintro e w62 ⟨rfl, hy0, hb, hkp⟩; refine ⟨_, rfl, ?_⟩; replace HO_323001 := mk_ (Kd.R_mono (ok' := fun k_ => some k_ ≠ (.slice Ao34 t330.length co34 : Value).ownBlock) (Kd.R_keptB ((Kd.R_apart' HO_323001.out (Kd.R_typed HO_11.out) (by decide))) hkp (fun k_ hk_ hs_ => (hk_.2) hs_)) (fun k_ hk_ => hk_.1.1)); replace HO_335001 := mk_ (Kd.R_mono (ok' := fun k_ => some k_ ≠ (.slice Ao25 t318.length co25 : Value).ownBlock) (Kd.R_keptB ((Kd.R_apart' HO_335001.out (Kd.R_typed HO_11.out) (by decide))) hkp (fun k_ hk_ hs_ => (hk_.2) hs_)) (fun k_ hk_ => hk_.1.1)); replace BK322 := mk_ (blk_kept (bk_ BK322.out) hkp (fun hs_ => (fun e_ => (Kd.R_ne HO_11.out BK322.out (by decide)) e_) hs_)); replace BK334 := mk_ (blk_kept (bk_ BK334.out) hkp (fun hs_ => (fun e_ => (Kd.R_ne HO_11.out BK334.out (by decide)) e_) hs_)); replace HB := mk_ (hb); (try clear HO_10 HO_11 HO338 HO342); (try clear hb); (try clear hkp); (try clear hy0)))
  (try simp only [Act.put, z0_, z1_, z2_])
  go_cut [86] (fun v86 wc => ∃ (kq : Nat) (x86_53 : Bool), v86 = .bool x86_53 ∧ Aside0 (laws_FnExactFindProof.j1 kq a0 l1 l2 t321 x86_53 t317 t318 t329 t330 = some r) ∧ Aside0 (kq ≤ kj15) ∧ Aside0 (Kd.R k93 93 wc w.heap.size (fun k_ => some k_ ≠ ((.slice Ao34 t330.length co34) : Value).ownBlock) (.slice Ao25 t318.length co25) t318) ∧ Aside0 (Kd.R k93 93 wc w.heap.size (fun k_ => some k_ ≠ ((.slice Ao25 t318.length co25) : Value).ownBlock) (.slice Ao34 t330.length co34) t330) ∧ Aside0 (wc.heap[gb322]? = some (.cells #[.int .i64 t317, (.slice Ao25 t318.length co25)] 51 (0, 0))) ∧ Aside0 (wc.heap[gb334]? = some (.cells #[.int .i64 t329, (.slice Ao34 t330.length co34)] 51 (0, 0))) ∧ Aside0 (Below w.heap.size w wc))
  case first =>
   have H := HC54.out
   clear HC54
   by_cases c63 : t345 < 0
   ·rw [if_pos c63] at H
    have c63b0 : decide (t345 < 0) = true := decide_eq_true c63
    clear c63
    (first | rw [c63b0] | (simp only [i64_w, i32_w]; rw [c63b0]) | skip)
    have H' := mk_ H
    clear H
    go_wp2
    go_meet
    case rel => exact ⟨_, (true), (by first | rfl | (simp; done) | (simp [*]; done)), H', ⟨by have := HJ15.out; first | omega | exact Nat.le_refl _⟩, ⟨Kd.R_below HO_323001.out lt_⟩, ⟨Kd.R_below HO_335001.out lt_⟩, ⟨by (with_reducible repeat (first | refine blk_drewN ?_ _ | refine blk_drew ?_ | refine blk_alloc ?_ _)); exact BK322.out⟩, ⟨by (with_reducible repeat (first | refine blk_drewN ?_ _ | refine blk_drew ?_ | refine blk_alloc ?_ _)); exact BK334.out⟩, ⟨at_ HB.out⟩⟩
   rw [if_neg c63] at H
   have c63b0 : decide (t345 < 0) = false := decide_eq_false c63
   clear c63
   (first | rw [c63b0] | (simp only [i64_w, i32_w]; rw [c63b0]) | skip)
   replace H := Option.bind_eq_some_iff.mp H
   obtain ⟨t347, A640, H⟩ := H
   try dsimp only at H
   have A64 := mk_ A640
   clear A640
   by_cases c65 : t347 = true
   ·subst c65
    rw [if_pos rfl] at H
    have H' := mk_ H
    clear H
    have hnb66 := NB334_322.out
    have hnc66 := NB322_334.out
    have hcz67_0 := blk_cell BK334.out 0
    have hcz67_1 := blk_cell BK334.out 1
    have hfz67_0 := blk_frozen BK334.out 0
    have hfz67_1 := blk_frozen BK334.out 1
    have hcz68_0 := blk_cell BK322.out 0
    have hcz68_1 := blk_cell BK322.out 1
    have hfz68_0 := blk_frozen BK322.out 0
    have hfz68_1 := blk_frozen BK322.out 1
    go_wp2_with (first | (go_at_call 37; (with_reducible refine (laws_eqProof.calls kj15 t329 _ _ t330 t317 _ _ t318 true _ ?side1 ?side2 ?side3 ?side4 A64.out).mono ?_); (case side1 => exact Kd.C_below (Kd.R_reads' HO_335001.out).2.2 lt_); (case side2 => exact (Kd.R_reads' HO_335001.out).2.1); (case side3 => exact Kd.C_below (Kd.R_reads' HO_323001.out).2.2 lt_); (case side4 => exact (Kd.R_reads' HO_323001.out).2.1); rintro e w69 ⟨rfl, hb⟩; replace HO_323001 := mk_ (Kd.R_below (Kd.R_below HO_323001.out lt_) hb); replace HO_335001 := mk_ (Kd.R_below (Kd.R_below HO_335001.out lt_) hb); replace BK322 := mk_ (blk_at BK322.out hb); replace BK334 := mk_ (blk_at BK334.out hb); replace HB := mk_ (below_step (at_ HB.out) hb); (try clear HO_10 HO_11 HO338 HO342); (try clear hb); (try clear hb2); (try clear hk); (try clear hi)))
    go_meet
    case rel => exact ⟨_, ((t333 != t321)), (by first | rfl | (simp; done) | (simp [*]; done)), H', ⟨by have := HJ15.out; first | omega | exact Nat.le_refl _⟩, ⟨Kd.R_below HO_323001.out lt_⟩, ⟨Kd.R_below HO_335001.out lt_⟩, ⟨by (with_reducible repeat (first | refine blk_drewN ?_ _ | refine blk_drew ?_ | refine blk_alloc ?_ _)); exact BK322.out⟩, ⟨by (with_reducible repeat (first | refine blk_drewN ?_ _ | refine blk_drew ?_ | refine blk_alloc ?_ _)); exact BK334.out⟩, ⟨at_ HB.out⟩⟩
   replace c65 := Bool.eq_false_iff.mpr c65
   subst c65
   rw [if_neg (show ¬ (false = true) by decide)] at H
   have H' := mk_ H
   clear H
   have hnb70 := NB334_322.out
   have hnc70 := NB322_334.out
   have hcz71_0 := blk_cell BK334.out 0
   have hcz71_1 := blk_cell BK334.out 1
   have hfz71_0 := blk_frozen BK334.out 0
   have hfz71_1 := blk_frozen BK334.out 1
   have hcz72_0 := blk_cell BK322.out 0
   have hcz72_1 := blk_cell BK322.out 1
   have hfz72_0 := blk_frozen BK322.out 0
   have hfz72_1 := blk_frozen BK322.out 1
   go_wp2_with (first | (go_at_call 37; (with_reducible refine (laws_eqProof.calls kj15 t329 _ _ t330 t317 _ _ t318 false _ ?side1 ?side2 ?side3 ?side4 A64.out).mono ?_); (case side1 => exact Kd.C_below (Kd.R_reads' HO_335001.out).2.2 lt_); (case side2 => exact (Kd.R_reads' HO_335001.out).2.1); (case side3 => exact Kd.C_below (Kd.R_reads' HO_323001.out).2.2 lt_); (case side4 => exact (Kd.R_reads' HO_323001.out).2.1); rintro e w73 ⟨rfl, hb⟩; replace HO_323001 := mk_ (Kd.R_below (Kd.R_below HO_323001.out lt_) hb); replace HO_335001 := mk_ (Kd.R_below (Kd.R_below HO_335001.out lt_) hb); replace BK322 := mk_ (blk_at BK322.out hb); replace BK334 := mk_ (blk_at BK334.out hb); replace HB := mk_ (below_step (at_ HB.out) hb); (try clear HO_10 HO_11 HO338 HO342); (try clear hb); (try clear hb2); (try clear hk); (try clear hi)))
   go_meet
   case rel => exact ⟨_, (true), (by first | rfl | (simp; done) | (simp [*]; done)), H', ⟨by have := HJ15.out; first | omega | exact Nat.le_refl _⟩, ⟨Kd.R_below HO_323001.out lt_⟩, ⟨Kd.R_below HO_335001.out lt_⟩, ⟨by (with_reducible repeat (first | refine blk_drewN ?_ _ | refine blk_drew ?_ | refine blk_alloc ?_ _)); exact BK322.out⟩, ⟨by (with_reducible repeat (first | refine blk_drewN ?_ _ | refine blk_drew ?_ | refine blk_alloc ?_ _)); exact BK334.out⟩, ⟨at_ HB.out⟩⟩
  clear HC54
  try clear c1
  try clear c2
  try clear p2
  try clear c3
  try clear c4
  try clear c5
  try clear c5b0
  try clear c6
  try clear c7
  try clear c8
  try clear c8b0
  try clear c9
  try clear c12
  try clear c14
  try clear c16
  try clear c29
  try clear c30
  try clear c32
  try clear c33
  try clear c36
  try clear c37
  try clear c38
  try clear c39
  try clear c40
  try clear c41
  try clear c45
  try clear c48
  try clear c51
  try clear c63
  try clear c63b0
  try clear c65
  try clear c66
  try clear c70
  try clear hcz24_0
  try clear hcz24_1
  try clear hcz33_0
  try clear hcz33_1
  try clear hcz38_0
  try clear hcz38_1
  try clear hcz39_0
  try clear hcz39_1
  try clear hcz42_0
  try clear hcz42_1
  try clear hcz43_0
  try clear hcz43_1
  try clear hcz67_0
  try clear hcz67_1
  try clear hcz68_0
  try clear hcz68_1
  try clear hcz71_0
  try clear hcz71_1
  try clear hcz72_0
  try clear hcz72_1
  try clear hfz24_0
  try clear hfz24_1
  try clear hfz33_0
  try clear hfz33_1
  try clear hfz38_0
  try clear hfz38_1
  try clear hfz39_0
  try clear hfz39_1
  try clear hfz42_0
  try clear hfz42_1
  try clear hfz43_0
  try clear hfz43_1
  try clear hfz67_0
  try clear hfz67_1
  try clear hfz68_0
  try clear hfz68_1
  try clear hfz71_0
  try clear hfz71_1
  try clear hfz72_0
  try clear hfz72_1
  try clear p2
  obtain ⟨kq, x86_53, rfl, HA, HJ53, HO_323001, HO_335001, BK322, BK334, HB⟩ := hcut
  cases kq with
  | zero => exact absurd HA.out (by simp [laws_FnExactFindProof.j1])
  | succ kj53 =>
   have H := HA.out
   clear HA
   simp only [laws_FnExactFindProof.j1] at H
   by_cases c74 : x86_53 = true
   ·subst c74
    rw [if_pos rfl] at H
    obtain rfl := Option.some.inj H
    go_wp2
    go_ret
    exact ⟨er_, at_ HB.out⟩
   replace c74 := Bool.eq_false_iff.mpr c74
   subst c74
   rw [if_neg (show ¬ (false = true) by decide)] at H
   replace H := Option.bind_eq_some_iff.mp H
   obtain ⟨⟨t348, t349⟩, A750, H⟩ := H
   try dsimp only at H
   have A75 := mk_ A750
   clear A750
   replace H := Option.bind_eq_some_iff.mp H
   obtain ⟨t350, A760, H⟩ := H
   try dsimp only at H
   have A76 := mk_ A760
   clear A760
   by_cases c77 : t350 < 0
   ·rw [if_pos c77] at H
    have c77b0 : decide (t350 < 0) = true := decide_eq_true c77
    clear c77
    obtain rfl := Option.some.inj H
    have hnb78 := NB334_322.out
    have hnc78 := NB322_334.out
    have hcz79_0 : wc.cell? ⟨gb334, 0, none⟩ = some (.int .i64 t329) := (blk_cell BK334.out 0).trans rfl
    have hcz79_1 : wc.cell? ⟨gb334, 1, none⟩ = some (.slice Ao34 t330.length co34) := (blk_cell BK334.out 1).trans rfl
    have hfz79_0 := blk_frozen BK334.out 0
    have hfz79_1 := blk_frozen BK334.out 1
    go_wp2_with (first | ((with_reducible refine gate_callee (f := 41) rfl ?_); refine goesL_ (some 89) rfl rfl Try.func41 (by kernel_rfl) rfl #[.agg #[.int .i64 t329, .slice Ao34 t330.length co34], .int .i64 1] rfl gl_ ?_; (with_reducible refine (laws_markProof.calls kj53 t329 (fun k_ => some k_ = (.slice Ao34 t330.length co34 : Value).ownBlock) (.slice Ao34 t330.length co34) t330 1 t348 t349 w _ ?side1 ?side2 A75.out).mono ?_); (case side1 => exact at_ HB.out); (case side2 => exact Kd.R_tight rfl HO_335001.out); rintro e w80 ⟨rfl, hy0, hb, hkp⟩; refine ⟨_, rfl, ?_⟩; replace BK334 := mk_ (blk_kept (bk_ BK334.out) hkp (fun hs_ => (fun e_ => (Kd.R_ne HO_335001.out BK334.out (by decide)) e_) hs_)); replace HO_335001 := mk_ (Kd.R_reok rfl hy0 (fun k_ e_ => HO_335001.out.1 k_ e_)); replace HB := mk_ (hb); (try clear HO_323001 BK322); (try clear hb); (try clear hkp); (try clear hy0); have hcz81_0 := blk_cell BK334.out 0; have hcz81_1 := blk_cell BK334.out 1; have hfz81_0 := blk_frozen BK334.out 0; have hfz81_1 := blk_frozen BK334.out 1) | ((with_reducible refine gate_callee (f := 42) rfl ?_); refine goesL_ (some 92) rfl rfl Try.func42 (by kernel_rfl) rfl #[.agg #[.int .i64 t329, .slice Ao34 t349.length co34], .int .i64 1] rfl (by (try simp only [List.map_toArray, List.map_cons, List.map_nil]); first | done | (rw [show t349.length = t330.length from (Kd.R_reads' HO_335001.out).1.symm] <;> rfl) | rfl | (simp only [List.length_drop, List.length_take]; rfl)) ?_; (with_reducible refine (laws_heldProof.calls kj53 t329 _ _ t349 1 t350 _ ?side1 ?side2 A76.out).mono ?_); (case side1 => exact Kd.C_below (Kd.R_reads' HO_335001.out).2.2 lt_); (case side2 => rw [show t349.length = t330.length from (Kd.R_reads' HO_335001.out).1.symm]; exact (Kd.R_reads' HO_335001.out).2.1); rintro e w82 ⟨rfl, hb⟩; refine ⟨_, rfl, ?_⟩; replace HB := mk_ (below_step (at_ HB.out) hb); (try clear HO_323001 HO_335001 BK322 BK334); (try clear hb); (try clear hb2); (try clear hk); (try clear hi)))
    go_ret
    exact ⟨er_, at_ HB.out⟩
   rw [if_neg c77] at H
   have c77b0 : decide (t350 < 0) = false := decide_eq_false c77
   clear c77
   by_cases c83 : t350 = t348
   rotate_left
   ·rw [if_neg c83] at H
    have c83b0 : (t350 == t348) = false := beq_eq_false_iff_ne.mpr c83
    have c83b1 : (t350 != t348) = true := bne_iff_ne.mpr c83
    obtain rfl := Option.some.inj H
    have hnb133 := NB334_322.out
    have hnc133 := NB322_334.out
    have hcz134_0 : wc.cell? ⟨gb334, 0, none⟩ = some (.int .i64 t329) := (blk_cell BK334.out 0).trans rfl
    have hcz134_1 : wc.cell? ⟨gb334, 1, none⟩ = some (.slice Ao34 t330.length co34) := (blk_cell BK334.out 1).trans rfl
    have hfz134_0 := blk_frozen BK334.out 0
    have hfz134_1 := blk_frozen BK334.out 1
    go_wp2_with (first | ((with_reducible refine gate_callee (f := 41) rfl ?_); refine goesL_ (some 89) rfl rfl Try.func41 (by kernel_rfl) rfl #[.agg #[.int .i64 t329, .slice Ao34 t330.length co34], .int .i64 1] rfl gl_ ?_; (with_reducible refine (laws_markProof.calls kj53 t329 (fun k_ => some k_ = (.slice Ao34 t330.length co34 : Value).ownBlock) (.slice Ao34 t330.length co34) t330 1 t348 t349 w _ ?side1 ?side2 A75.out).mono ?_); (case side1 => exact at_ HB.out); (case side2 => exact Kd.R_tight rfl HO_335001.out); rintro e w135 ⟨rfl, hy0, hb, hkp⟩; refine ⟨_, rfl, ?_⟩; replace BK334 := mk_ (blk_kept (bk_ BK334.out) hkp (fun hs_ => (fun e_ => (Kd.R_ne HO_335001.out BK334.out (by decide)) e_) hs_)); replace HO_335001 := mk_ (Kd.R_reok rfl hy0 (fun k_ e_ => HO_335001.out.1 k_ e_)); replace HB := mk_ (hb); (try clear HO_323001 BK322); (try clear hb); (try clear hkp); (try clear hy0); have hcz136_0 := blk_cell BK334.out 0; have hcz136_1 := blk_cell BK334.out 1; have hfz136_0 := blk_frozen BK334.out 0; have hfz136_1 := blk_frozen BK334.out 1) | ((with_reducible refine gate_callee (f := 42) rfl ?_); refine goesL_ (some 92) rfl rfl Try.func42 (by kernel_rfl) rfl #[.agg #[.int .i64 t329, .slice Ao34 t349.length co34], .int .i64 1] rfl (by (try simp only [List.map_toArray, List.map_cons, List.map_nil]); first | done | (rw [show t349.length = t330.length from (Kd.R_reads' HO_335001.out).1.symm] <;> rfl) | rfl | (simp only [List.length_drop, List.length_take]; rfl)) ?_; (with_reducible refine (laws_heldProof.calls kj53 t329 _ _ t349 1 t350 _ ?side1 ?side2 A76.out).mono ?_); (case side1 => exact Kd.C_below (Kd.R_reads' HO_335001.out).2.2 lt_); (case side2 => rw [show t349.length = t330.length from (Kd.R_reads' HO_335001.out).1.symm]; exact (Kd.R_reads' HO_335001.out).2.1); rintro e w137 ⟨rfl, hb⟩; refine ⟨_, rfl, ?_⟩; replace HB := mk_ (below_step (at_ HB.out) hb); (try clear HO_323001 HO_335001 BK322 BK334); (try clear hb); (try clear hb2); (try clear hk); (try clear hi)))
    go_ret
    exact ⟨er_, at_ HB.out⟩
   rw [if_pos c83] at H
   have c83b0 : (t350 == t348) = true := beq_iff_eq.mpr c83
   have c83b1 : (t350 != t348) = false := bne_eq_false_iff_eq.mpr c83
   clear c83
   replace H := Option.bind_eq_some_iff.mp H
   obtain ⟨t351, A840, H⟩ := H
   try dsimp only at H
   have A84 := mk_ A840
   clear A840
   replace H := Option.bind_eq_some_iff.mp H
   obtain ⟨t354, A850, H⟩ := H
   try dsimp only at H
   have A85 := mk_ A850
   clear A850
   replace H := Option.bind_eq_some_iff.mp H
   obtain ⟨⟨t357, t358, t361⟩, A860, H⟩ := H
   try dsimp only at H
   have A86 := mk_ A860
   clear A860
   have HC87 := mk_ H
   clear H
   have hnb88 := NB334_322.out
   have hnc88 := NB322_334.out
   have hcz89_0 : wc.cell? ⟨gb334, 0, none⟩ = some (.int .i64 t329) := (blk_cell BK334.out 0).trans rfl
   have hcz89_1 : wc.cell? ⟨gb334, 1, none⟩ = some (.slice Ao34 t330.length co34) := (blk_cell BK334.out 1).trans rfl
   have hfz89_0 := blk_frozen BK334.out 0
   have hfz89_1 := blk_frozen BK334.out 1
   go_upto_region 32 with (first | ((with_reducible refine gate_callee (f := 41) rfl ?_); refine goesL_ (some 89) rfl rfl Try.func41 (by kernel_rfl) rfl #[.agg #[.int .i64 t329, .slice Ao34 t330.length co34], .int .i64 1] rfl gl_ ?_; (with_reducible refine (laws_markProof.calls kj53 t329 (fun k_ => some k_ = (.slice Ao34 t330.length co34 : Value).ownBlock) (.slice Ao34 t330.length co34) t330 1 t348 t349 w _ ?side1 ?side2 A75.out).mono ?_); (case side1 => exact at_ HB.out); (case side2 => exact Kd.R_tight rfl HO_335001.out); rintro e w90 ⟨rfl, hy0, hb, hkp⟩; refine ⟨_, rfl, ?_⟩; replace HO_323001 := mk_ (Kd.R_mono (ok' := fun k_ => some k_ ≠ (.slice Ao34 t330.length co34 : Value).ownBlock) (Kd.R_keptB (HO_323001.out) hkp (fun k_ hk_ hs_ => (hk_) hs_)) (fun k_ hk_ => hk_.1)); replace BK322 := mk_ (blk_kept (bk_ BK322.out) hkp (fun hs_ => (fun e_ => (Kd.R_ne HO_335001.out BK322.out (by decide)) e_) hs_)); replace BK334 := mk_ (blk_kept (bk_ BK334.out) hkp (fun hs_ => (fun e_ => (Kd.R_ne HO_335001.out BK334.out (by decide)) e_) hs_)); replace HO_335001 := mk_ (Kd.R_reok rfl hy0 (fun k_ e_ => HO_335001.out.1 k_ e_)); replace HB := mk_ (hb); (try clear hb); (try clear hkp); (try clear hy0); have hcz91_0 := blk_cell BK334.out 0; have hcz91_1 := blk_cell BK334.out 1; have hfz91_0 := blk_frozen BK334.out 0; have hfz91_1 := blk_frozen BK334.out 1) | ((with_reducible refine gate_callee (f := 42) rfl ?_); refine goesL_ (some 92) rfl rfl Try.func42 (by kernel_rfl) rfl #[.agg #[.int .i64 t329, .slice Ao34 t349.length co34], .int .i64 1] rfl (by (try simp only [List.map_toArray, List.map_cons, List.map_nil]); first | done | (rw [show t349.length = t330.length from (Kd.R_reads' HO_335001.out).1.symm] <;> rfl) | rfl | (simp only [List.length_drop, List.length_take]; rfl)) ?_; (with_reducible refine (laws_heldProof.calls kj53 t329 _ _ t349 1 t350 _ ?side1 ?side2 A76.out).mono ?_); (case side1 => exact Kd.C_below (Kd.R_reads' HO_335001.out).2.2 lt_); (case side2 => rw [show t349.length = t330.length from (Kd.R_reads' HO_335001.out).1.symm]; exact (Kd.R_reads' HO_335001.out).2.1); rintro e w92 ⟨rfl, hb⟩; refine ⟨_, rfl, ?_⟩; replace HO_323001 := mk_ (Kd.R_below (Kd.R_below HO_323001.out lt_) hb); replace HO_335001 := mk_ (Kd.R_below (Kd.R_below HO_335001.out lt_) hb); replace BK322 := mk_ (blk_at BK322.out hb); replace BK334 := mk_ (blk_at BK334.out hb); replace HB := mk_ (below_step (at_ HB.out) hb); (try clear hb); (try clear hb2); (try clear hk); (try clear hi)) | ((with_reducible refine gate_callee (f := 14) rfl ?_); refine goesL_ (some 101) rfl rfl Try.func14 (by kernel_rfl) rfl #[.slice A1 l1.length c1] rfl gl_ ?_; (with_reducible refine (laws_toClaimS.calls kj53 _ _ l1 t351 _ ?side1 ?side2 A84.out).mono ?_); (case side1 => exact Kd.C_below (Kd.C_below HR1.out HB.out) lt_); (case side2 => exact HC1.out); rintro e w93 ⟨v352, rfl, ho0, hb⟩; refine ⟨_, rfl, ?_⟩; replace HO_323001 := mk_ (Kd.R_below (Kd.R_below HO_323001.out lt_) hb); replace HO_335001 := mk_ (Kd.R_below (Kd.R_below HO_335001.out lt_) hb); have HO353 := mk_ (Kd.S_lower ho0 (below_size (at_ HB.out))); replace BK322 := mk_ (blk_at BK322.out hb); replace BK334 := mk_ (blk_at BK334.out hb); replace HB := mk_ (below_step (at_ HB.out) hb); (try clear hb); (try clear hb2); (try clear hk); (try clear hi); (try clear ho0)) | ((with_reducible refine gate_callee (f := 33) rfl ?_); refine goesL_ (some 103) rfl rfl Try.func33 (by kernel_rfl) rfl #[.slice A2 l2.length c2] rfl gl_ ?_; (with_reducible refine (laws_toMarkS.calls kj53 _ _ l2 t354 _ ?side1 ?side2 A85.out).mono ?_); (case side1 => exact Kd.C_below (Kd.C_below HR2.out HB.out) lt_); (case side2 => exact HC2.out); rintro e w94 ⟨v355, rfl, ho0, hb⟩; refine ⟨_, rfl, ?_⟩; replace HO_323001 := mk_ (Kd.R_below (Kd.R_below HO_323001.out lt_) hb); replace HO_335001 := mk_ (Kd.R_below (Kd.R_below HO_335001.out lt_) hb); replace HO353 := mk_ (Kd.S_elder' (Kd.S_below HO353.out lt_) (Kd.R_base ho0) hb); have HO356 := mk_ (Kd.R_lower ho0 (below_size (at_ HB.out))); replace BK322 := mk_ (blk_at BK322.out hb); replace BK334 := mk_ (blk_at BK334.out hb); replace HB := mk_ (below_step (at_ HB.out) hb); (try clear hb); (try clear hb2); (try clear hk); (try clear hi); (try clear ho0); obtain ⟨Ao95, co95, eo95⟩ := Kd.S_slice HO353.out; subst eo95; obtain ⟨Ao96, co96, eo96⟩ := Kd.R_slice HO356.out; subst eo96) | ((with_reducible refine gate_callee (f := 29) rfl ?_); refine goesL_ (some 104) rfl rfl Try.func29 (by kernel_rfl) rfl #[.int .i64 a0, .slice Ao95 t351.length co95, .slice Ao96 t354.length co96] rfl gl_ ?_; (with_reducible refine (impl_FindProof.calls a0 _ _ t351 _ _ t354 t357 t358 t361 _ ?side1 ?side2 ?side3 ?side4 A86.out).mono ?_); (case side1 => exact Kd.C_below (Kd.S_reads' HO353.out).2.2 lt_); (case side2 => exact (Kd.S_reads' HO353.out).2.1); (case side3 => exact Kd.C_below (Kd.R_reads' HO356.out).2.2 lt_); (case side4 => exact (Kd.R_reads' HO356.out).2.1); rintro e w97 ⟨v359, rfl, ho0, hb⟩; refine ⟨_, rfl, ?_⟩; have HO360 := mk_ (Kd.R_lower (Kd.R_new' (Kd.R_new' ho0 (Kd.R_lt (Kd.R_below HO_323001.out lt_))) (Kd.R_lt (Kd.R_below HO_335001.out lt_))) (below_size (at_ HB.out))); replace HO_323001 := mk_ (Kd.R_elder' (Kd.R_below HO_323001.out lt_) (Kd.R_base ho0) hb); replace HO_335001 := mk_ (Kd.R_elder' (Kd.R_below HO_335001.out lt_) (Kd.R_base ho0) hb); replace BK322 := mk_ (blk_at BK322.out hb); replace BK334 := mk_ (blk_at BK334.out hb); replace HB := mk_ (below_step (at_ HB.out) hb); (try clear HO353 HO356); (try clear hb); (try clear hb2); (try clear hk); (try clear hi); (try clear ho0)) | ((with_reducible refine gate_dst (N := 17) rfl ?_); refine box_event ?hg (N := 17) ?hd (cs := #[.int .i64 0, .slice none 0 0]) (t := 51) ?hr ?_; (case hd => rfl); (case hg => rfl); (case hr => first | (go_simp; done) | (go_simp; rfl)); intro gb362 hg w98 hbox hb; replace HO_323001 := mk_ (Kd.R_below (Kd.R_below HO_323001.out lt_) hb); replace HO_335001 := mk_ (Kd.R_below (Kd.R_below HO_335001.out lt_) hb); replace HO360 := mk_ (Kd.R_below (Kd.R_below HO360.out lt_) hb); have BK362 := mk_ (hbox); have GW362 := mk_ ((by rw [hg]; exact (below_size (at_ HB.out)) : w.heap.size ≤ gb362)); have GE362 := mk_ ((by rw [hg]; exact (below_size (at_ HB.out)) : w.heap.size ≤ gb362)); replace HB := mk_ (below_step (at_ HB.out) hb); have NB322_362 := mk_ ((by rw [hg]; exact Nat.ne_of_lt (blk_lt (g := gb322) (o := .cells #[.int .i64 t317, .slice Ao25 t318.length co25] 51 (0, 0)) (bk_ BK322.out)) : gb322 ≠ gb362)); have NB362_322 := mk_ ((by rw [hg]; exact Nat.ne_of_gt (blk_lt (g := gb322) (o := .cells #[.int .i64 t317, .slice Ao25 t318.length co25] 51 (0, 0)) (bk_ BK322.out)) : gb362 ≠ gb322)); replace BK322 := mk_ (blk_at BK322.out hb); have NB334_362 := mk_ ((by rw [hg]; exact Nat.ne_of_lt (blk_lt (g := gb334) (o := .cells #[.int .i64 t329, .slice Ao34 t330.length co34] 51 (0, 0)) (bk_ BK334.out)) : gb334 ≠ gb362)); have NB362_334 := mk_ ((by rw [hg]; exact Nat.ne_of_gt (blk_lt (g := gb334) (o := .cells #[.int .i64 t329, .slice Ao34 t330.length co34] 51 (0, 0)) (bk_ BK334.out)) : gb362 ≠ gb334)); replace BK334 := mk_ (blk_at BK334.out hb); (try clear HO353 HO356); clear hb hbox hg; have hnb99 := NB362_322.out; have hnc99 := NB322_362.out; have hnb100 := NB362_334.out; have hnc100 := NB334_362.out; have hcz101_0 := blk_cell BK362.out 0; have hcz101_1 := blk_cell BK362.out 1; have hfz101_0 := blk_frozen BK362.out 0; have hfz101_1 := blk_frozen BK362.out 1; obtain ⟨Ao102, co102, eo102⟩ := Kd.R_slice HO360.out; subst eo102))
   (try simp only [Act.put, z0_, z1_, z2_])
   go_cut [115] (fun v115 wc => ∃ (kq : Nat) (x115_86 : Bool), v115 = .bool x115_86 ∧ Aside0 (laws_FnExactFindProof.j2 kq t348 x115_86 t329 t349 = some r) ∧ Aside0 (kq ≤ kj53) ∧ Aside0 (Kd.R k93 93 wc w.heap.size (fun k_ => some k_ ≠ ((.slice Ao34 t330.length co34) : Value).ownBlock ∧ some k_ ≠ ((.slice Ao102 t358.length co102) : Value).ownBlock) (.slice Ao25 t318.length co25) t318) ∧ Aside0 (Kd.R k93 93 wc w.heap.size (fun k_ => some k_ ≠ ((.slice Ao25 t318.length co25) : Value).ownBlock ∧ some k_ ≠ ((.slice Ao102 t358.length co102) : Value).ownBlock) (.slice Ao34 t330.length co34) t349) ∧ Aside0 (Kd.R k93 93 wc w.heap.size (fun k_ => some k_ ≠ ((.slice Ao25 t318.length co25) : Value).ownBlock ∧ some k_ ≠ ((.slice Ao34 t330.length co34) : Value).ownBlock) (.slice Ao102 t358.length co102) t358) ∧ Aside0 (wc.heap[gb322]? = some (.cells #[.int .i64 t317, (.slice Ao25 t318.length co25)] 51 (0, 0))) ∧ Aside0 (wc.heap[gb334]? = some (.cells #[.int .i64 t329, (.slice Ao34 t330.length co34)] 51 (0, 0))) ∧ Aside0 (wc.heap[gb362]? = some (.cells #[.int .i64 t357, (.slice Ao102 t358.length co102)] 51 (0, 0))) ∧ Aside0 (Below w.heap.size w wc))
   case first =>
    have H := HC87.out
    clear HC87
    replace H := Option.bind_eq_some_iff.mp H
    obtain ⟨t363, A1030, H⟩ := H
    try dsimp only at H
    have A103 := mk_ A1030
    clear A1030
    by_cases c104 : t363 = true
    ·subst c104
     rw [if_pos rfl] at H
     have H' := mk_ H
     clear H
     have hnb105 := NB362_322.out
     have hnc105 := NB322_362.out
     have hnb106 := NB362_334.out
     have hnc106 := NB334_362.out
     have hcz107_0 := blk_cell BK362.out 0
     have hcz107_1 := blk_cell BK362.out 1
     have hfz107_0 := blk_frozen BK362.out 0
     have hfz107_1 := blk_frozen BK362.out 1
     have hnb108 := NB322_334.out
     have hnc108 := NB334_322.out
     have hcz109_0 := blk_cell BK322.out 0
     have hcz109_1 := blk_cell BK322.out 1
     have hfz109_0 := blk_frozen BK322.out 0
     have hfz109_1 := blk_frozen BK322.out 1
     go_wp2_with (first | ((with_reducible refine gate_callee (f := 37) rfl ?_); refine goesL_ (some 109) rfl rfl Try.func37 (by kernel_rfl) rfl #[.agg #[.int .i64 t357, .slice Ao102 t358.length co102], .agg #[.int .i64 t317, .slice Ao25 t318.length co25]] rfl gl_ ?_; (with_reducible refine (laws_eqProof.calls kj53 t357 _ _ t358 t317 _ _ t318 true _ ?side1 ?side2 ?side3 ?side4 A103.out).mono ?_); (case side1 => refine (Kd.R_reads' (e := 93) (base := w.heap.size) (ok := fun k_ => ((True ∧ some k_ ≠ (.slice Ao25 t318.length co25 : Value).ownBlock) ∧ some k_ ≠ (.slice Ao34 t330.length co34 : Value).ownBlock)) (n := t358.length) (c := co102) ?_).2.2; exact (by (with_reducible repeat (first | apply Kd.R_alloc | apply Kd.R_drewN | apply Kd.R_drew)); exact (Kd.R_mono (Kd.R_far (p := ⟨gb362, 1, none⟩) (Kd.R_far (p := ⟨gb362, 0, none⟩) (Kd.R_types HO360.out BK362.out (by decide)) (fun _ hk => hk.2) (.int .i64 t357)) (fun _ hk => hk.2) (.slice Ao102 t358.length co102)) (fun _ h_ => h_.1)))); (case side2 => exact (Kd.R_reads' HO360.out).2.1); (case side3 => refine (Kd.R_reads' (e := 93) (base := w.heap.size) (ok := fun k_ => (some k_ ≠ (.slice Ao34 t330.length co34 : Value).ownBlock ∧ some k_ ≠ (.slice Ao102 t358.length co102 : Value).ownBlock)) (n := t318.length) (c := co25) ?_).2.2; exact (by (with_reducible repeat (first | apply Kd.R_alloc | apply Kd.R_drewN | apply Kd.R_drew)); exact (Kd.R_mono (Kd.R_far (p := ⟨gb362, 1, none⟩) (Kd.R_far (p := ⟨gb362, 0, none⟩) (Kd.R_types HO_323001.out BK362.out (by decide)) (fun _ hk => hk.2) (.int .i64 t357)) (fun _ hk => hk.2) (.slice Ao102 t358.length co102)) (fun _ h_ => h_.1)))); (case side4 => exact (Kd.R_reads' HO_323001.out).2.1); rintro e w110 ⟨rfl, hb⟩; refine ⟨_, rfl, ?_⟩; replace HO_323001 := mk_ (Kd.R_below (by (with_reducible repeat (first | apply Kd.R_alloc | apply Kd.R_drewN | apply Kd.R_drew)); exact (Kd.R_mono (Kd.R_far (p := ⟨gb362, 1, none⟩) (Kd.R_far (p := ⟨gb362, 0, none⟩) (Kd.R_types HO_323001.out BK362.out (by decide)) (fun _ hk => hk.2) (.int .i64 t357)) (fun _ hk => hk.2) (.slice Ao102 t358.length co102)) (fun _ h_ => h_.1))) hb); replace HO_335001 := mk_ (Kd.R_below (by (with_reducible repeat (first | apply Kd.R_alloc | apply Kd.R_drewN | apply Kd.R_drew)); exact (Kd.R_mono (Kd.R_far (p := ⟨gb362, 1, none⟩) (Kd.R_far (p := ⟨gb362, 0, none⟩) (Kd.R_types HO_335001.out BK362.out (by decide)) (fun _ hk => hk.2) (.int .i64 t357)) (fun _ hk => hk.2) (.slice Ao102 t358.length co102)) (fun _ h_ => h_.1))) hb); replace HO360 := mk_ (Kd.R_below (by (with_reducible repeat (first | apply Kd.R_alloc | apply Kd.R_drewN | apply Kd.R_drew)); exact (Kd.R_mono (Kd.R_far (p := ⟨gb362, 1, none⟩) (Kd.R_far (p := ⟨gb362, 0, none⟩) (Kd.R_types HO360.out BK362.out (by decide)) (fun _ hk => hk.2) (.int .i64 t357)) (fun _ hk => hk.2) (.slice Ao102 t358.length co102)) (fun _ h_ => h_.1))) hb); replace BK322 := mk_ (blk_below (g := gb322) (o := .cells #[.int .i64 t317, .slice Ao25 t318.length co25] 51 (0, 0)) (by (with_reducible repeat (first | refine blk_drewN ?_ _ | refine blk_drew ?_ | refine blk_alloc ?_ _)); refine blk_far ?_ NB322_362.out _; (with_reducible repeat (first | refine blk_drewN ?_ _ | refine blk_drew ?_ | refine blk_alloc ?_ _)); refine blk_far ?_ NB322_362.out _; (with_reducible repeat (first | refine blk_drewN ?_ _ | refine blk_drew ?_ | refine blk_alloc ?_ _)); exact BK322.out) hb); replace BK334 := mk_ (blk_below (g := gb334) (o := .cells #[.int .i64 t329, .slice Ao34 t330.length co34] 51 (0, 0)) (by (with_reducible repeat (first | refine blk_drewN ?_ _ | refine blk_drew ?_ | refine blk_alloc ?_ _)); refine blk_far ?_ NB334_362.out _; (with_reducible repeat (first | refine blk_drewN ?_ _ | refine blk_drew ?_ | refine blk_alloc ?_ _)); refine blk_far ?_ NB334_362.out _; (with_reducible repeat (first | refine blk_drewN ?_ _ | refine blk_drew ?_ | refine blk_alloc ?_ _)); exact BK334.out) hb); replace BK362 := mk_ (blk_below (g := gb362) (o := .cells #[.int .i64 t357, .slice Ao102 t358.length co102] 51 (0, 0)) (by (with_reducible repeat (first | refine blk_drewN ?_ _ | refine blk_drew ?_ | refine blk_alloc ?_ _)); refine blk_put (cs := #[.int .i64 t357, .slice none 0 0]) ?_ 1 _ rfl; (with_reducible repeat (first | refine blk_drewN ?_ _ | refine blk_drew ?_ | refine blk_alloc ?_ _)); refine blk_put (cs := #[.int .i64 0, .slice none 0 0]) ?_ 0 _ rfl; (with_reducible repeat (first | refine blk_drewN ?_ _ | refine blk_drew ?_ | refine blk_alloc ?_ _)); exact BK362.out) hb); replace HB := mk_ (below_step (at_ HB.out) hb); (try clear HO353 HO356); (try clear hb); (try clear hb2); (try clear hk); (try clear hi)))
     go_meet
     case rel => exact ⟨_, ((t361 != t321)), (by first | rfl | (simp; done) | (simp [*]; done)), H', ⟨by have := HJ15.out; have := HJ53.out; first | omega | exact Nat.le_refl _⟩, ⟨Kd.R_below HO_323001.out lt_⟩, ⟨Kd.R_below HO_335001.out lt_⟩, ⟨Kd.R_below (Kd.R_mono HO360.out (fun _ hk => ⟨hk.1.2, hk.2⟩)) lt_⟩, ⟨by (with_reducible repeat (first | refine blk_drewN ?_ _ | refine blk_drew ?_ | refine blk_alloc ?_ _)); exact BK322.out⟩, ⟨by (with_reducible repeat (first | refine blk_drewN ?_ _ | refine blk_drew ?_ | refine blk_alloc ?_ _)); exact BK334.out⟩, ⟨by (with_reducible repeat (first | refine blk_drewN ?_ _ | refine blk_drew ?_ | refine blk_alloc ?_ _)); exact BK362.out⟩, ⟨at_ HB.out⟩⟩
    replace c104 := Bool.eq_false_iff.mpr c104
    subst c104
    rw [if_neg (show ¬ (false = true) by decide)] at H
    have H' := mk_ H
    clear H
    have hnb111 := NB362_322.out
    have hnc111 := NB322_362.out
    have hnb112 := NB362_334.out
    have hnc112 := NB334_362.out
    have hcz113_0 := blk_cell BK362.out 0
    have hcz113_1 := blk_cell BK362.out 1
    have hfz113_0 := blk_frozen BK362.out 0
    have hfz113_1 := blk_frozen BK362.out 1
    have hnb114 := NB322_334.out
    have hnc114 := NB334_322.out
    have hcz115_0 := blk_cell BK322.out 0
    have hcz115_1 := blk_cell BK322.out 1
    have hfz115_0 := blk_frozen BK322.out 0
    have hfz115_1 := blk_frozen BK322.out 1
    go_wp2_with (first | ((with_reducible refine gate_callee (f := 37) rfl ?_); refine goesL_ (some 109) rfl rfl Try.func37 (by kernel_rfl) rfl #[.agg #[.int .i64 t357, .slice Ao102 t358.length co102], .agg #[.int .i64 t317, .slice Ao25 t318.length co25]] rfl gl_ ?_; (with_reducible refine (laws_eqProof.calls kj53 t357 _ _ t358 t317 _ _ t318 false _ ?side1 ?side2 ?side3 ?side4 A103.out).mono ?_); (case side1 => refine (Kd.R_reads' (e := 93) (base := w.heap.size) (ok := fun k_ => ((True ∧ some k_ ≠ (.slice Ao25 t318.length co25 : Value).ownBlock) ∧ some k_ ≠ (.slice Ao34 t330.length co34 : Value).ownBlock)) (n := t358.length) (c := co102) ?_).2.2; exact (by (with_reducible repeat (first | apply Kd.R_alloc | apply Kd.R_drewN | apply Kd.R_drew)); exact (Kd.R_mono (Kd.R_far (p := ⟨gb362, 1, none⟩) (Kd.R_far (p := ⟨gb362, 0, none⟩) (Kd.R_types HO360.out BK362.out (by decide)) (fun _ hk => hk.2) (.int .i64 t357)) (fun _ hk => hk.2) (.slice Ao102 t358.length co102)) (fun _ h_ => h_.1)))); (case side2 => exact (Kd.R_reads' HO360.out).2.1); (case side3 => refine (Kd.R_reads' (e := 93) (base := w.heap.size) (ok := fun k_ => (some k_ ≠ (.slice Ao34 t330.length co34 : Value).ownBlock ∧ some k_ ≠ (.slice Ao102 t358.length co102 : Value).ownBlock)) (n := t318.length) (c := co25) ?_).2.2; exact (by (with_reducible repeat (first | apply Kd.R_alloc | apply Kd.R_drewN | apply Kd.R_drew)); exact (Kd.R_mono (Kd.R_far (p := ⟨gb362, 1, none⟩) (Kd.R_far (p := ⟨gb362, 0, none⟩) (Kd.R_types HO_323001.out BK362.out (by decide)) (fun _ hk => hk.2) (.int .i64 t357)) (fun _ hk => hk.2) (.slice Ao102 t358.length co102)) (fun _ h_ => h_.1)))); (case side4 => exact (Kd.R_reads' HO_323001.out).2.1); rintro e w116 ⟨rfl, hb⟩; refine ⟨_, rfl, ?_⟩; replace HO_323001 := mk_ (Kd.R_below (by (with_reducible repeat (first | apply Kd.R_alloc | apply Kd.R_drewN | apply Kd.R_drew)); exact (Kd.R_mono (Kd.R_far (p := ⟨gb362, 1, none⟩) (Kd.R_far (p := ⟨gb362, 0, none⟩) (Kd.R_types HO_323001.out BK362.out (by decide)) (fun _ hk => hk.2) (.int .i64 t357)) (fun _ hk => hk.2) (.slice Ao102 t358.length co102)) (fun _ h_ => h_.1))) hb); replace HO_335001 := mk_ (Kd.R_below (by (with_reducible repeat (first | apply Kd.R_alloc | apply Kd.R_drewN | apply Kd.R_drew)); exact (Kd.R_mono (Kd.R_far (p := ⟨gb362, 1, none⟩) (Kd.R_far (p := ⟨gb362, 0, none⟩) (Kd.R_types HO_335001.out BK362.out (by decide)) (fun _ hk => hk.2) (.int .i64 t357)) (fun _ hk => hk.2) (.slice Ao102 t358.length co102)) (fun _ h_ => h_.1))) hb); replace HO360 := mk_ (Kd.R_below (by (with_reducible repeat (first | apply Kd.R_alloc | apply Kd.R_drewN | apply Kd.R_drew)); exact (Kd.R_mono (Kd.R_far (p := ⟨gb362, 1, none⟩) (Kd.R_far (p := ⟨gb362, 0, none⟩) (Kd.R_types HO360.out BK362.out (by decide)) (fun _ hk => hk.2) (.int .i64 t357)) (fun _ hk => hk.2) (.slice Ao102 t358.length co102)) (fun _ h_ => h_.1))) hb); replace BK322 := mk_ (blk_below (g := gb322) (o := .cells #[.int .i64 t317, .slice Ao25 t318.length co25] 51 (0, 0)) (by (with_reducible repeat (first | refine blk_drewN ?_ _ | refine blk_drew ?_ | refine blk_alloc ?_ _)); refine blk_far ?_ NB322_362.out _; (with_reducible repeat (first | refine blk_drewN ?_ _ | refine blk_drew ?_ | refine blk_alloc ?_ _)); refine blk_far ?_ NB322_362.out _; (with_reducible repeat (first | refine blk_drewN ?_ _ | refine blk_drew ?_ | refine blk_alloc ?_ _)); exact BK322.out) hb); replace BK334 := mk_ (blk_below (g := gb334) (o := .cells #[.int .i64 t329, .slice Ao34 t330.length co34] 51 (0, 0)) (by (with_reducible repeat (first | refine blk_drewN ?_ _ | refine blk_drew ?_ | refine blk_alloc ?_ _)); refine blk_far ?_ NB334_362.out _; (with_reducible repeat (first | refine blk_drewN ?_ _ | refine blk_drew ?_ | refine blk_alloc ?_ _)); refine blk_far ?_ NB334_362.out _; (with_reducible repeat (first | refine blk_drewN ?_ _ | refine blk_drew ?_ | refine blk_alloc ?_ _)); exact BK334.out) hb); replace BK362 := mk_ (blk_below (g := gb362) (o := .cells #[.int .i64 t357, .slice Ao102 t358.length co102] 51 (0, 0)) (by (with_reducible repeat (first | refine blk_drewN ?_ _ | refine blk_drew ?_ | refine blk_alloc ?_ _)); refine blk_put (cs := #[.int .i64 t357, .slice none 0 0]) ?_ 1 _ rfl; (with_reducible repeat (first | refine blk_drewN ?_ _ | refine blk_drew ?_ | refine blk_alloc ?_ _)); refine blk_put (cs := #[.int .i64 0, .slice none 0 0]) ?_ 0 _ rfl; (with_reducible repeat (first | refine blk_drewN ?_ _ | refine blk_drew ?_ | refine blk_alloc ?_ _)); exact BK362.out) hb); replace HB := mk_ (below_step (at_ HB.out) hb); (try clear HO353 HO356); (try clear hb); (try clear hb2); (try clear hk); (try clear hi)))
    go_meet
    case rel => exact ⟨_, (true), (by first | rfl | (simp; done) | (simp [*]; done)), H', ⟨by have := HJ15.out; have := HJ53.out; first | omega | exact Nat.le_refl _⟩, ⟨Kd.R_below HO_323001.out lt_⟩, ⟨Kd.R_below HO_335001.out lt_⟩, ⟨Kd.R_below (Kd.R_mono HO360.out (fun _ hk => ⟨hk.1.2, hk.2⟩)) lt_⟩, ⟨by (with_reducible repeat (first | refine blk_drewN ?_ _ | refine blk_drew ?_ | refine blk_alloc ?_ _)); exact BK322.out⟩, ⟨by (with_reducible repeat (first | refine blk_drewN ?_ _ | refine blk_drew ?_ | refine blk_alloc ?_ _)); exact BK334.out⟩, ⟨by (with_reducible repeat (first | refine blk_drewN ?_ _ | refine blk_drew ?_ | refine blk_alloc ?_ _)); exact BK362.out⟩, ⟨at_ HB.out⟩⟩
   clear HC87
   try clear c1
   try clear c2
   try clear p2
   try clear c3
   try clear c4
   try clear c5
   try clear c5b0
   try clear c6
   try clear c7
   try clear c8
   try clear c8b0
   try clear c9
   try clear c10
   try clear c11
   try clear c12
   try clear c14
   try clear c16
   try clear c29
   try clear c30
   try clear c32
   try clear c33
   try clear c36
   try clear c37
   try clear c38
   try clear c39
   try clear c40
   try clear c41
   try clear c42
   try clear c45
   try clear c48
   try clear c51
   try clear c63
   try clear c63b0
   try clear c65
   try clear c66
   try clear c70
   try clear c74
   try clear c77
   try clear c77b0
   try clear c78
   try clear c83
   try clear c83b0
   try clear c83b1
   try clear c88
   try clear c99
   try clear c100
   try clear c104
   try clear c105
   try clear c106
   try clear c108
   try clear c111
   try clear c112
   try clear c114
   try clear hcz101_0
   try clear hcz101_1
   try clear hcz107_0
   try clear hcz107_1
   try clear hcz109_0
   try clear hcz109_1
   try clear hcz113_0
   try clear hcz113_1
   try clear hcz115_0
   try clear hcz115_1
   try clear hcz24_0
   try clear hcz24_1
   try clear hcz33_0
   try clear hcz33_1
   try clear hcz38_0
   try clear hcz38_1
   try clear hcz39_0
   try clear hcz39_1
   try clear hcz42_0
   try clear hcz42_1
   try clear hcz43_0
   try clear hcz43_1
   try clear hcz67_0
   try clear hcz67_1
   try clear hcz68_0
   try clear hcz68_1
   try clear hcz71_0
   try clear hcz71_1
   try clear hcz72_0
   try clear hcz72_1
   try clear hcz79_0
   try clear hcz79_1
   try clear hcz81_0
   try clear hcz81_1
   try clear hcz89_0
   try clear hcz89_1
   try clear hcz91_0
   try clear hcz91_1
   try clear hfz101_0
   try clear hfz101_1
   try clear hfz107_0
   try clear hfz107_1
   try clear hfz109_0
   try clear hfz109_1
   try clear hfz113_0
   try clear hfz113_1
   try clear hfz115_0
   try clear hfz115_1
   try clear hfz24_0
   try clear hfz24_1
   try clear hfz33_0
   try clear hfz33_1
   try clear hfz38_0
   try clear hfz38_1
   try clear hfz39_0
   try clear hfz39_1
   try clear hfz42_0
   try clear hfz42_1
   try clear hfz43_0
   try clear hfz43_1
   try clear hfz67_0
   try clear hfz67_1
   try clear hfz68_0
   try clear hfz68_1
   try clear hfz71_0
   try clear hfz71_1
   try clear hfz72_0
   try clear hfz72_1
   try clear hfz79_0
   try clear hfz79_1
   try clear hfz81_0
   try clear hfz81_1
   try clear hfz89_0
   try clear hfz89_1
   try clear hfz91_0
   try clear hfz91_1
   try clear p2
   obtain ⟨kq, x115_86, rfl, HA, HJ86, HO_323001, HO_335001, HO_363001, BK322, BK334, BK362, HB⟩ := hcut
   have hl335001_86 := (Kd.R_reads' HO_335001.out).1
   rw [hl335001_86] at HO_335001
   (try simp only [hl335001_86])
   (try simp only [hl335001_86] at BK322)
   (try simp only [hl335001_86] at BK334)
   (try simp only [hl335001_86] at BK362)
   (try simp only [hl335001_86] at HO_323001)
   (try simp only [hl335001_86] at HO_363001)
   cases kq with
   | zero => exact absurd HA.out (by simp [laws_FnExactFindProof.j2])
   | succ kj86 =>
    have H := HA.out
    clear HA
    simp only [laws_FnExactFindProof.j2] at H
    by_cases c117 : x115_86 = true
    ·subst c117
     rw [if_pos rfl] at H
     obtain rfl := Option.some.inj H
     go_wp2
     go_ret
     exact ⟨er_, at_ HB.out⟩
    replace c117 := Bool.eq_false_iff.mpr c117
    subst c117
    rw [if_neg (show ¬ (false = true) by decide)] at H
    replace H := Option.bind_eq_some_iff.mp H
    obtain ⟨t364, A1180, H⟩ := H
    try dsimp only at H
    have A118 := mk_ A1180
    clear A1180
    by_cases c119 : t364 < 0
    ·rw [if_pos c119] at H
     have c119b0 : decide (t364 < 0) = true := decide_eq_true c119
     clear c119
     obtain rfl := Option.some.inj H
     have hnb120 := NB334_322.out
     have hnc120 := NB322_334.out
     have hnb121 := NB334_362.out
     have hnc121 := NB362_334.out
     have hcz122_0 : wc.cell? ⟨gb334, 0, none⟩ = some (.int .i64 t329) := (blk_cell BK334.out 0).trans rfl
     have hcz122_1 : wc.cell? ⟨gb334, 1, none⟩ = some (.slice Ao34 t349.length co34) := (blk_cell BK334.out 1).trans rfl
     have hfz122_0 := blk_frozen BK334.out 0
     have hfz122_1 := blk_frozen BK334.out 1
     go_wp2_with (first | ((with_reducible refine gate_callee (f := 42) rfl ?_); refine goesL_ (some 118) rfl rfl Try.func42 (by kernel_rfl) rfl #[.agg #[.int .i64 t329, .slice Ao34 t349.length co34], .int .i64 1] rfl gl_ ?_; (with_reducible refine (laws_heldProof.calls kj86 t329 _ _ t349 1 t364 _ ?side1 ?side2 A118.out).mono ?_); (case side1 => exact Kd.C_below (Kd.R_reads' HO_335001.out).2.2 lt_); (case side2 => exact (Kd.R_reads' HO_335001.out).2.1); rintro e w123 ⟨rfl, hb⟩; refine ⟨_, rfl, ?_⟩; replace HB := mk_ (below_step (at_ HB.out) hb); (try clear HO_323001 HO_335001 HO_363001 BK322 BK334 BK362); (try clear hb); (try clear hb2); (try clear hk); (try clear hi)))
     go_ret
     exact ⟨er_, at_ HB.out⟩
    rw [if_neg c119] at H
    have c119b0 : decide (t364 < 0) = false := decide_eq_false c119
    clear c119
    by_cases c124 : t364 = t348
    ·rw [if_pos c124] at H
     have c124b0 : (t364 == t348) = true := beq_iff_eq.mpr c124
     have c124b1 : (t364 != t348) = false := bne_eq_false_iff_eq.mpr c124
     clear c124
     obtain rfl := Option.some.inj H
     have hnb125 := NB334_322.out
     have hnc125 := NB322_334.out
     have hnb126 := NB334_362.out
     have hnc126 := NB362_334.out
     have hcz127_0 : wc.cell? ⟨gb334, 0, none⟩ = some (.int .i64 t329) := (blk_cell BK334.out 0).trans rfl
     have hcz127_1 : wc.cell? ⟨gb334, 1, none⟩ = some (.slice Ao34 t349.length co34) := (blk_cell BK334.out 1).trans rfl
     have hfz127_0 := blk_frozen BK334.out 0
     have hfz127_1 := blk_frozen BK334.out 1
     go_wp2_with (first | ((with_reducible refine gate_callee (f := 42) rfl ?_); refine goesL_ (some 118) rfl rfl Try.func42 (by kernel_rfl) rfl #[.agg #[.int .i64 t329, .slice Ao34 t349.length co34], .int .i64 1] rfl gl_ ?_; (with_reducible refine (laws_heldProof.calls kj86 t329 _ _ t349 1 t364 _ ?side1 ?side2 A118.out).mono ?_); (case side1 => exact Kd.C_below (Kd.R_reads' HO_335001.out).2.2 lt_); (case side2 => exact (Kd.R_reads' HO_335001.out).2.1); rintro e w128 ⟨rfl, hb⟩; refine ⟨_, rfl, ?_⟩; replace HB := mk_ (below_step (at_ HB.out) hb); (try clear HO_323001 HO_335001 HO_363001 BK322 BK334 BK362); (try clear hb); (try clear hb2); (try clear hk); (try clear hi)))
     go_ret
     exact ⟨er_, at_ HB.out⟩
    rw [if_neg c124] at H
    have c124b0 : (t364 == t348) = false := beq_eq_false_iff_ne.mpr c124
    have c124b1 : (t364 != t348) = true := bne_iff_ne.mpr c124
    obtain rfl := Option.some.inj H
    have hnb129 := NB334_322.out
    have hnc129 := NB322_334.out
    have hnb130 := NB334_362.out
    have hnc130 := NB362_334.out
    have hcz131_0 : wc.cell? ⟨gb334, 0, none⟩ = some (.int .i64 t329) := (blk_cell BK334.out 0).trans rfl
    have hcz131_1 : wc.cell? ⟨gb334, 1, none⟩ = some (.slice Ao34 t349.length co34) := (blk_cell BK334.out 1).trans rfl
    have hfz131_0 := blk_frozen BK334.out 0
    have hfz131_1 := blk_frozen BK334.out 1
    go_wp2_with (first | ((with_reducible refine gate_callee (f := 42) rfl ?_); refine goesL_ (some 118) rfl rfl Try.func42 (by kernel_rfl) rfl #[.agg #[.int .i64 t329, .slice Ao34 t349.length co34], .int .i64 1] rfl gl_ ?_; (with_reducible refine (laws_heldProof.calls kj86 t329 _ _ t349 1 t364 _ ?side1 ?side2 A118.out).mono ?_); (case side1 => exact Kd.C_below (Kd.R_reads' HO_335001.out).2.2 lt_); (case side2 => exact (Kd.R_reads' HO_335001.out).2.1); rintro e w132 ⟨rfl, hb⟩; refine ⟨_, rfl, ?_⟩; replace HB := mk_ (below_step (at_ HB.out) hb); (try clear HO_323001 HO_335001 HO_363001 BK322 BK334 BK362); (try clear hb); (try clear hb2); (try clear hk); (try clear hi)))
    go_ret
    exact ⟨er_, at_ HB.out⟩

/-- THE ONE PURE STATEMENT of laws_FnExactFindProof. -/
noncomputable def laws_FnExactFindProof.Pure : Prop := ∀ (a0 : Int) (l1 : List (S75)) (l2 : List (S100)), ((Lit.int .i64 a0).wf = true) → (l1.length ≤ maxLen ∧ ∀ y0 ∈ l1, ((Lit.int .i64 y0.f0).wf = true) ∧ (y0.f1.length ≤ maxLen ∧ ∀ y1 ∈ y0.f1, ((Lit.int .i64 y1.f0).wf = true) ∧ ((Lit.int .i64 y1.f1).wf = true))) → (l2.length ≤ maxLen ∧ ∀ y0 ∈ l2, ((Lit.int .i64 y0.f0).wf = true) ∧ ((Lit.int .i64 y0.f1).wf = true)) → ∃ k, laws_FnExactFindProof.f k a0 l1 l2 = some true
theorem laws_FnExactFindProof.walk (P : laws_FnExactFindProof.Pure) (a0 : Int) (A1 : Option Addr) (c1 : Nat) (l1 : List (S75)) (A2 : Option Addr) (c2 : Nat) (l2 : List (S100)) (w : World) (hr1 : Kd.C k75 w A1 l1.length l1) (hc1 : l1.length ≤ c1) (hr2 : Kd.C k100 w A2 l2.length l2) (hc2 : l2.length ≤ c2) (wf0_ : (Lit.int .i64 a0).wf = true) (wf1_ : l1.length ≤ maxLen ∧ ∀ y0 ∈ l1, ((Lit.int .i64 y0.f0).wf = true) ∧ (y0.f1.length ≤ maxLen ∧ ∀ y1 ∈ y0.f1, ((Lit.int .i64 y1.f0).wf = true) ∧ ((Lit.int .i64 y1.f1).wf = true))) (wf2_ : l2.length ≤ maxLen ∧ ∀ y0 ∈ l2, ((Lit.int .i64 y0.f0).wf = true) ∧ ((Lit.int .i64 y0.f1).wf = true)) :
  Calls Try.prog 9 #[.int .i64 a0, .slice A1 l1.length c1, .slice A2 l2.length c2] w fun e w' => e = .returned (.bool true) ∧ Below w.heap.size w w' := by
 obtain ⟨k, h⟩ := P a0 l1 l2 wf0_ wf1_ wf2_
 refine (laws_FnExactFindProof.calls k a0 A1 c1 l1 A2 c2 l2 true w hr1 hc1 hr2 hc2 h).mono ?_
 rintro e w' ⟨rfl, hd⟩
 exact ⟨rfl, hd⟩

end Go.Proofs.Ytcaogllnbpmcgaa.P

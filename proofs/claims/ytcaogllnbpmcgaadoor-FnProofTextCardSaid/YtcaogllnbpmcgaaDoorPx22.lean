/- Go's functions come to just the answers of the Lean functions told here. -/
import Derived.Test.YtcaogllnbpmcgaaDoorPx18
import Derived.Test.YtcaogllnbpmcgaaDoorPx21
namespace Go.Proofs.YtcaogllnbpmcgaaDoor.P
open Go.RowKit Go.Proofs.YtcaogllnbpmcgaaDoorW.PrintWords Go.Proofs.YtcaogllnbpmcgaaDoorW.PrintLast Go.Proofs.YtcaogllnbpmcgaaDoorW.PrintMore
attribute [local go_sem] max2_int min2_int max_two min_two max_three min_three max_four min_four
set_option linter.unusedVariables false
set_option linter.unusedSimpArgs false
noncomputable def impl_ProofText.f (k : Nat) (a0 : Int) (l1 : List (S79)) (l2 : List (S82)) (a3_0 : Int) (l3_1 : List (S68)) : Option (ByteArray) := (impl_ProofOk.f a0 l1 l2 a3_0 l3_1).bind fun t421 => (if t421 = true then ((impl_caseText.f k a3_0 l3_1 a3_0).bind fun t422 => (some t422)) else (some (⟨#[]⟩ : ByteArray)))
set_option maxHeartbeats 8000000 in
set_option maxRecDepth 100000 in
theorem impl_ProofText.calls (k : Nat) (a0 : Int) (A1 : Option Addr) (c1 : Nat) (l1 : List (S79)) (A2 : Option Addr) (c2 : Nat) (l2 : List (S82)) (a3_0 : Int) (A3_1 : Option Addr) (c3_1 : Nat) (l3_1 : List (S68)) (r : ByteArray) (w : World) (hr1 : Kd.C k79 w A1 l1.length l1) (hc1 : l1.length ≤ c1) (hr2 : Kd.C k82 w A2 l2.length l2) (hc2 : l2.length ≤ c2) (hr3_1 : Kd.C k68 w A3_1 l3_1.length l3_1) (hc3_1 : l3_1.length ≤ c3_1) (h : impl_ProofText.f k a0 l1 l2 a3_0 l3_1 = some r) :
  Calls Tryd.prog 8 #[.int .i64 a0, .slice A1 l1.length c1, .slice A2 l2.length c2, .agg #[.int .i64 a3_0, .slice A3_1 l3_1.length c3_1]] w fun e w' => e = .returned (.string r) ∧ Below w.heap.size w w' := by
 have hu27 := Tryd.underlying27
 have HR1 := mk_ hr1
 have HC1 := mk_ hc1
 clear hr1 hc1
 have HR2 := mk_ hr2
 have HC2 := mk_ hc2
 clear hr2 hc2
 have HR3_1 := mk_ hr3_1
 have HC3_1 := mk_ hc3_1
 clear hr3_1 hc3_1
 have HB := mk_ (Below.refl w.heap.size w)
 unfold impl_ProofText.f at h
 have H := h
 clear h
 revert H; refine bd_ fun t421 A5 H => ?_
 try dsimp only at H
 revert H; refine bi_ ?_ ?_ <;> rintro rfl H
 ·obtain rfl := Option.some.inj H
  go_enter Tryd.func8, Tryd.ntmps8
  go_wp2_with (first | (refine gx_ 7 #[.int .i64 a3_0, .slice A3_1 l3_1.length c3_1] 27 ?_; intro gb420 hg w13 hbox hb; have BK420 := mk_ (hbox); have GW420 := gm_ hg HB.out; have GE420 := gm_ hg HB.out; replace HB := mk_ (below_step (below_at HB.out) hb); clear hb hbox hg; have hcz14_0 := blk_cell BK420.out 0; have hcz14_1 := blk_cell BK420.out 1; have hfz14_0 := blk_frozen BK420.out 0; have hfz14_1 := blk_frozen BK420.out 1) | (refine gc_ 10 (some 13) Tryd.func10 #[.int .i64 a0, .slice A1 l1.length c1, .slice A2 l2.length c2, .agg #[.int .i64 a3_0, .slice A3_1 l3_1.length c3_1]] ?_; (with_reducible refine (impl_ProofOk.calls a0 _ _ l1 _ _ l2 a3_0 _ _ l3_1 false _ ?side1 ?side2 ?side3 ?side4 ?side5 ?side6 A5.out).mono ?_); (case side1 => exact Kd.C_below (Kd.C_below HR1.out HB.out) lt_); (case side2 => exact HC1.out); (case side3 => exact Kd.C_below (Kd.C_below HR2.out HB.out) lt_); (case side4 => exact HC2.out); (case side5 => exact Kd.C_below (Kd.C_below HR3_1.out HB.out) lt_); (case side6 => exact HC3_1.out); rintro e w15 ⟨rfl, hb⟩; refine ⟨_, rfl, ?_⟩; replace HB := mk_ (below_step (at_ HB.out) hb); (try clear BK420); (try clear hb)))
  go_ret
  exact ⟨er_, at_ HB.out⟩
 replace H := Option.bind_eq_some_iff.mp H
 obtain ⟨t422, A70, H⟩ := H
 replace H : (some t422) = some r := H
 have A7 := mk_ A70
 clear A70
 obtain rfl := Option.some.inj H
 go_enter Tryd.func8, Tryd.ntmps8
 go_wp2_with (first | (refine gx_ 7 #[.int .i64 a3_0, .slice A3_1 l3_1.length c3_1] 27 ?_; intro gb420 hg w8 hbox hb; have BK420 := mk_ (hbox); have GW420 := gm_ hg HB.out; have GE420 := gm_ hg HB.out; replace HB := mk_ (below_step (below_at HB.out) hb); clear hb hbox hg; have hcz9_0 := blk_cell BK420.out 0; have hcz9_1 := blk_cell BK420.out 1; have hfz9_0 := blk_frozen BK420.out 0; have hfz9_1 := blk_frozen BK420.out 1) | (refine gc_ 10 (some 13) Tryd.func10 #[.int .i64 a0, .slice A1 l1.length c1, .slice A2 l2.length c2, .agg #[.int .i64 a3_0, .slice A3_1 l3_1.length c3_1]] ?_; (with_reducible refine (impl_ProofOk.calls a0 _ _ l1 _ _ l2 a3_0 _ _ l3_1 true _ ?side1 ?side2 ?side3 ?side4 ?side5 ?side6 A5.out).mono ?_); (case side1 => exact Kd.C_below (Kd.C_below HR1.out HB.out) lt_); (case side2 => exact HC1.out); (case side3 => exact Kd.C_below (Kd.C_below HR2.out HB.out) lt_); (case side4 => exact HC2.out); (case side5 => exact Kd.C_below (Kd.C_below HR3_1.out HB.out) lt_); (case side6 => exact HC3_1.out); rintro e w10 ⟨rfl, hb⟩; refine ⟨_, rfl, ?_⟩; replace BK420 := mk_ (blk_at BK420.out hb); replace HB := mk_ (below_step (at_ HB.out) hb); (try clear hb); have hcz11_0 := blk_cell BK420.out 0; have hcz11_1 := blk_cell BK420.out 1; have hfz11_0 := blk_frozen BK420.out 0; have hfz11_1 := blk_frozen BK420.out 1) | (refine gc_ 31 (some 18) Tryd.func31 #[.agg #[.int .i64 a3_0, .slice A3_1 l3_1.length c3_1], .int .i64 a3_0] ?_; (with_reducible refine (impl_caseText.calls k a3_0 _ _ l3_1 a3_0 t422 _ ?side1 ?side2 A7.out).mono ?_); (case side1 => exact Kd.C_below (Kd.C_below HR3_1.out HB.out) lt_); (case side2 => exact HC3_1.out); rintro e w12 ⟨rfl, hb⟩; refine ⟨_, rfl, ?_⟩; replace HB := mk_ (below_step (at_ HB.out) hb); (try clear BK420); (try clear hb)))
 go_ret
 exact ⟨er_, at_ HB.out⟩
mutual
def spec_l11Checks.j0 : Nat → Int → List (S79) → List (S82) → Int → List Int → Bool → Int → List (S68) → Int → Int → Int → Option (Int × Bool)
 | 0, _, _, _, _, _, _, _, _, _, _, _ => none
 | k + 1, x0, x1, x2, x4, x5, x54, x424000, x424001, x427000, x427001, x427002 => if x54 = true then (some (0, false)) else (spec_l11Checks.l0 k x0 x1 x2 x4 x5 1 0 x424000 x424001 x427000 x427001 x427002)
def spec_l11Checks.l0 : Nat → Int → List (S79) → List (S82) → Int → List Int → Int → Int → Int → List (S68) → Int → Int → Int → Option (Int × Bool)
 | 0, _, _, _, _, _, _, _, _, _, _, _, _ => none
 | k + 1, x0, x1, x2, x4, x5, x15, x16, x424000, x424001, x427000, x427001, x427002 => if x16 < 2 then (if x16 = 1 then (spec_l11Checks.j2 k x0 x1 x2 x4 x5 x15 x16 x427002 x424000 x424001 x427000 x427001 x427002) else (spec_l11Checks.j2 k x0 x1 x2 x4 x5 x15 x16 x427001 x424000 x424001 x427000 x427001 x427002)) else (some (x15, true))
def spec_l11Checks.j2 : Nat → Int → List (S79) → List (S82) → Int → List Int → Int → Int → Int → Int → List (S68) → Int → Int → Int → Option (Int × Bool)
 | 0, _, _, _, _, _, _, _, _, _, _, _, _, _ => none
 | k + 1, x0, x1, x2, x4, x5, x15, x16, x17, x424000, x424001, x427000, x427001, x427002 => if x17 ≥ 0 then (if x17 ≤ x4 then (spec_l11Checks.j3 k x0 x1 x2 x4 x5 x15 x16 x17 true x424000 x424001 x427000 x427001 x427002) else (spec_l11Checks.j3 k x0 x1 x2 x4 x5 x15 x16 x17 (decide (x17 ≥ (x424001.length : Int))) x424000 x424001 x427000 x427001 x427002)) else (spec_l11Checks.j3 k x0 x1 x2 x4 x5 x15 x16 x17 false x424000 x424001 x427000 x427001 x427002)
def spec_l11Checks.j3 : Nat → Int → List (S79) → List (S82) → Int → List Int → Int → Int → Int → Bool → Int → List (S68) → Int → Int → Int → Option (Int × Bool)
 | 0, _, _, _, _, _, _, _, _, _, _, _, _, _, _ => none
 | k + 1, x0, x1, x2, x4, x5, x15, x16, x17, x78, x424000, x424001, x427000, x427001, x427002 => if x78 = true then (some (0, false)) else ((some (([] : List Int) : List Int)).bind fun y429 => (if y429.length + x5.length < 17592186044416 then ((some (y429 ++ x5 : List Int)).bind fun y432 => (if 0 ≤ x427000 then (if x427000 < (y432.length : Int) then ((spec_l11Checks.f k x0 x1 x2 x424000 x424001 x17 (y432.set (x427000 : Int).toNat x16)).bind fun bt436 => (if bt436.2 = true then (spec_l11Checks.l0 k x0 x1 x2 x4 x5 (wrap64 (x15 + bt436.1)) (wrap64 (x16 + 1)) x424000 x424001 x427000 x427001 x427002) else (some (0, false)))) else (none)) else (none))) else (none)))
def spec_l11Checks.f : Nat → Int → List (S79) → List (S82) → Int → List (S68) → Int → List Int → Option (Int × Bool)
 | 0, _, _, _, _, _, _, _ => none
 | k + 1, a0, l1, l2, a3_0, l3_1, a4, l5 => if a4 < 0 then (if a4 ≥ (wrap64 ((-2) - (l1.length : Int))) then ((spec_l11Closes.f k a0 l1 l2 a4 l5).bind fun t424 => (some (0, t424))) else (some (0, false))) else (if 0 ≤ a4 then (if a4 < (l3_1.length : Int) then ((spec_l1In.f ((rd_T68 l3_1 a4).f0) 0 (wrap64 (a0 - 1))).bind fun t427 => (if t427 = true then (if 0 ≤ ((rd_T68 l3_1 a4).f0) then (if ((rd_T68 l3_1 a4).f0) < (l5.length : Int) then (spec_l11Checks.j0 k a0 l1 l2 a4 l5 (decide ((rd l5 ((rd_T68 l3_1 a4).f0)) ≥ 0)) a3_0 l3_1 ((rd_T68 l3_1 a4).f0) ((rd_T68 l3_1 a4).f1) ((rd_T68 l3_1 a4).f2)) else (none)) else (none)) else (spec_l11Checks.j0 k a0 l1 l2 a4 l5 true a3_0 l3_1 ((rd_T68 l3_1 a4).f0) ((rd_T68 l3_1 a4).f1) ((rd_T68 l3_1 a4).f2)))) else (none)) else (none))
end
set_option maxHeartbeats 8000000 in
set_option maxRecDepth 100000 in
theorem spec_l11Checks.calls (k : Nat) : ∀ (a0 : Int) (A1 : Option Addr) (c1 : Nat) (l1 : List (S79)) (A2 : Option Addr) (c2 : Nat) (l2 : List (S82)) (a3_0 : Int) (A3_1 : Option Addr) (c3_1 : Nat) (l3_1 : List (S68)) (a4 : Int) (A5 : Option Addr) (c5 : Nat) (l5 : List Int) (r1 : Int) (r2 : Bool) (w : World) (hr1 : Kd.C k79 w A1 l1.length l1) (hc1 : l1.length ≤ c1) (hr2 : Kd.C k82 w A2 l2.length l2) (hc2 : l2.length ≤ c2) (hr3_1 : Kd.C k68 w A3_1 l3_1.length l3_1) (hc3_1 : l3_1.length ≤ c3_1) (hr5 : Kd.C (Kd.int .i64) w A5 l5.length l5) (hc5 : l5.length ≤ c5) (h : spec_l11Checks.f k a0 l1 l2 a3_0 l3_1 a4 l5 = some (r1, r2)),
  Calls Tryd.prog 59 #[.int .i64 a0, .slice A1 l1.length c1, .slice A2 l2.length c2, .agg #[.int .i64 a3_0, .slice A3_1 l3_1.length c3_1], .int .i64 a4, .slice A5 l5.length c5] w fun e w' => e = .returned (.tuple #[.int .i64 r1, .bool r2]) ∧ Below w.heap.size w w' := by
 induction k using Nat.strongRecOn with
 | _ k ih =>
 intro a0 A1 c1 l1 A2 c2 l2 a3_0 A3_1 c3_1 l3_1 a4 A5 c5 l5 r1 r2 w hr1 hc1 hr2 hc2 hr3_1 hc3_1 hr5 hc5 h
 cases k with
 | zero => exact absurd h (by simp [spec_l11Checks.f])
 | succ k =>
 simp only [spec_l11Checks.f] at h
 have hu27 := Tryd.underlying27
 have hu68 := Tryd.underlying68
 have HR1 := mk_ hr1
 have HC1 := mk_ hc1
 clear hr1 hc1
 have HR2 := mk_ hr2
 have HC2 := mk_ hc2
 clear hr2 hc2
 have HR3_1 := mk_ hr3_1
 have HC3_1 := mk_ hc3_1
 clear hr3_1 hc3_1
 have HR5 := mk_ hr5
 have HC5 := mk_ hc5
 clear hr5 hc5
 have HB := mk_ (Below.refl w.heap.size w)
 have H : (if a4 < 0 then (if a4 ≥ (wrap64 ((-2) - (l1.length : Int))) then ((spec_l11Closes.f k a0 l1 l2 a4 l5).bind fun t424 => (some (0, t424))) else (some (0, false))) else (if 0 ≤ a4 then (if a4 < (l3_1.length : Int) then ((spec_l1In.f ((rd_T68 l3_1 a4).f0) 0 (wrap64 (a0 - 1))).bind fun t427 => (if t427 = true then (if 0 ≤ ((rd_T68 l3_1 a4).f0) then (if ((rd_T68 l3_1 a4).f0) < (l5.length : Int) then (spec_l11Checks.j0 k a0 l1 l2 a4 l5 (decide ((rd l5 ((rd_T68 l3_1 a4).f0)) ≥ 0)) a3_0 l3_1 ((rd_T68 l3_1 a4).f0) ((rd_T68 l3_1 a4).f1) ((rd_T68 l3_1 a4).f2)) else (none)) else (none)) else (spec_l11Checks.j0 k a0 l1 l2 a4 l5 true a3_0 l3_1 ((rd_T68 l3_1 a4).f0) ((rd_T68 l3_1 a4).f1) ((rd_T68 l3_1 a4).f2)))) else (none)) else (none))) = some (r1, r2) := h
 clear h
 revert H; refine it_ (dt_ fun c7b0 H => ?_) (df_ fun c7b0 H => ?_)
 ·revert H; refine ti_ (df_ fun (c8b0 : decide ((wrap64 ((-2) - (l1.length : Int))) ≤ a4) = false) H => ?_) (dt_ fun (c8b0 : decide ((wrap64 ((-2) - (l1.length : Int))) ≤ a4) = true) H => ?_)
  ·simp only [Option.some.injEq, Prod.mk.injEq] at H
   obtain ⟨rfl, rfl⟩ := H
   go_enter Tryd.func59, Tryd.ntmps59
   go_wp2_with (first | ((with_reducible refine gate_dst (N := 9) rfl ?_); (try (refine gate_guard (by rfl) ?_; dsimp only)); refine bx_ 9 #[.int .i64 a3_0, .slice A3_1 l3_1.length c3_1] 27 ?_; intro gb423 hg w12 hbox hb; have GW423 := gm_ hg HB.out; have GE423 := gm_ hg HB.out; replace HB := mk_ (below_step (below_at HB.out) hb); clear hb hbox hg))
   go_ret2
   exact ⟨er_, at_ HB.out⟩
  replace H := Option.bind_eq_some_iff.mp H
  obtain ⟨t424, A90, H⟩ := H
  replace H : (some (0, t424)) = some (r1, r2) := H
  have A9 := mk_ A90
  clear A90
  simp only [Option.some.injEq, Prod.mk.injEq] at H
  obtain ⟨rfl, rfl⟩ := H
  go_enter Tryd.func59, Tryd.ntmps59
  go_wp2_with (first | ((with_reducible refine gate_dst (N := 9) rfl ?_); (try (refine gate_guard (by rfl) ?_; dsimp only)); refine bx_ 9 #[.int .i64 a3_0, .slice A3_1 l3_1.length c3_1] 27 ?_; intro gb423 hg w10 hbox hb; have GW423 := gm_ hg HB.out; have GE423 := gm_ hg HB.out; replace HB := mk_ (below_step (below_at HB.out) hb); clear hb hbox hg) | (go_at_call 81; (with_reducible refine (spec_l11Closes.calls k a0 _ _ l1 _ _ l2 a4 _ _ l5 t424 _ ?side1 ?side2 ?side3 ?side4 ?side5 ?side6 A9.out).mono ?_); (case side1 => exact Kd.C_below (Kd.C_below HR1.out HB.out) lt_); (case side2 => exact HC1.out); (case side3 => exact Kd.C_below (Kd.C_below HR2.out HB.out) lt_); (case side4 => exact HC2.out); (case side5 => exact Kd.C_below (Kd.C_below HR5.out HB.out) lt_); (case side6 => exact HC5.out); rintro e w11 ⟨rfl, hb⟩; replace HB := mk_ (below_step (at_ HB.out) hb); (try clear BK423); (try clear hb)))
  go_ret2
  exact ⟨er_, at_ HB.out⟩
 revert H; refine g_ (dt_ fun c13b0 => g_ (dt_ fun c14b0 H => ?_))
 have HC15 := mk_ H
 clear H
 go_enter Tryd.func59, Tryd.ntmps59
 go_upto_region 4 with (first | ((with_reducible refine gate_dst (N := 9) rfl ?_); (try (refine gate_guard (by rfl) ?_; dsimp only)); refine bx_ 9 #[.int .i64 a3_0, .slice A3_1 l3_1.length c3_1] 27 ?_; intro gb423 hg w16 hbox hb; have BK423 := mk_ (hbox); have GW423 := gm_ hg HB.out; have GE423 := gm_ hg HB.out; replace HB := mk_ (below_step (below_at HB.out) hb); clear hb hbox hg; have hcz17_0 := blk_cell BK423.out 0; have hcz17_1 := blk_cell BK423.out 1; have hfz17_0 := blk_frozen BK423.out 0; have hfz17_1 := blk_frozen BK423.out 1; have p425 : 0 ≤ (a4 : Int) := oa_; have q425 : a4 < (l3_1.length : Int) := oa_; obtain ⟨ad425, e425, hx425_0, hx425_1, hx425_2⟩ := at_T68 HR3_1.out a4 p425 q425; cases e425; replace hx425_0 := cel HB.out hx425_0; replace hx425_1 := cel HB.out hx425_1; replace hx425_2 := cel HB.out hx425_2; replace p425 := eq_true p425; replace q425 := eq_true q425) | ((with_reducible refine gate_dst (N := 14) rfl ?_); (try (refine gate_guard (by rfl) ?_; dsimp only)); refine bx_ 14 #[.int .i64 0, .int .i64 0, .int .i64 0] 68 ?_; intro gb426 hg w18 hbox hb; have BK426 := mk_ (hbox); have GW426 := gw_ hg HB.out; have GE426 := gw_ hg HB.out; replace HB := mk_ (below_step (at_ HB.out) hb); have NB423_426 := nl_ hg BK423.out; have NB426_423 := ng_ hg BK423.out; replace BK423 := mk_ (blk_at BK423.out hb); clear hb hbox hg; have hnb19 := NB426_423.out; have hnc19 := NB423_426.out; have hcz20_0 := blk_cell BK426.out 0; have hcz20_1 := blk_cell BK426.out 1; have hcz20_2 := blk_cell BK426.out 2; have hfz20_0 := blk_frozen BK426.out 0; have hfz20_1 := blk_frozen BK426.out 1; have hfz20_2 := blk_frozen BK426.out 2))
 (try simp only [Act.put, z0_, z1_, z2_])
 go_cut [54] (fun v54 wc => ∃ (kq : Nat) (x54_14 : Bool), v54 = .bool x54_14 ∧ Aside0 (spec_l11Checks.j0 kq a0 l1 l2 a4 l5 x54_14 a3_0 l3_1 ((rd_T68 l3_1 a4).f0) ((rd_T68 l3_1 a4).f1) ((rd_T68 l3_1 a4).f2) = some (r1, r2)) ∧ Aside0 (kq ≤ k) ∧ Aside0 (wc.heap[gb423]? = some (.cells #[.int .i64 a3_0, (.slice (some ad425) l3_1.length c3_1)] 27 (0, 0))) ∧ Aside0 (wc.heap[gb426]? = some (.cells #[.int .i64 ((rd_T68 l3_1 a4).f0), .int .i64 ((rd_T68 l3_1 a4).f1), .int .i64 ((rd_T68 l3_1 a4).f2)] 68 (0, 0))) ∧ Aside0 (Below w.heap.size w wc))
 case first =>
  have H := HC15.out
  clear HC15
  revert H; refine bd_ fun t427 A21 H => ?_
  try dsimp only at H
  revert H; refine bi_ ?_ ?_ <;> rintro rfl H
  ·have H' := mk_ H
   clear H
   have hnb27 := NB426_423.out
   have hnc27 := NB423_426.out
   have hcz28_0 := blk_cell BK426.out 0
   have hcz28_1 := blk_cell BK426.out 1
   have hcz28_2 := blk_cell BK426.out 2
   have hfz28_0 := blk_frozen BK426.out 0
   have hfz28_1 := blk_frozen BK426.out 1
   have hfz28_2 := blk_frozen BK426.out 2
   go_wp2_with (first | (refine gc_ 80 (some 45) Tryd.func80 #[.int .i64 ((rd_T68 l3_1 a4).f0), .int .i64 0, .int .i64 (wrap64 (a0 - 1))] ?_; (with_reducible refine (spec_l1In.calls ((rd_T68 l3_1 a4).f0) 0 (wrap64 (a0 - 1)) false _ A21.out).mono ?_); rintro e w' ⟨rfl, ⟨nd, rfl⟩⟩; refine ⟨_, rfl, ?_⟩))
   go_meet
   case rel => exact ⟨_, (true), sm_, H', ⟨by first | omega | exact Nat.le_refl _⟩, ⟨by refine bs_ ?_; refine blk_far ?_ NB423_426.out _; refine bs_ ?_; refine blk_far ?_ NB423_426.out _; refine bs_ ?_; refine blk_far ?_ NB423_426.out _; refine bs_ ?_; exact BK423.out⟩, ⟨by refine bs_ ?_; refine blk_put (cs := #[.int .i64 ((rd_T68 l3_1 a4).f0), .int .i64 ((rd_T68 l3_1 a4).f1), .int .i64 0]) ?_ 2 _ rfl; refine bs_ ?_; refine blk_put (cs := #[.int .i64 ((rd_T68 l3_1 a4).f0), .int .i64 0, .int .i64 0]) ?_ 1 _ rfl; refine bs_ ?_; refine blk_put (cs := #[.int .i64 0, .int .i64 0, .int .i64 0]) ?_ 0 _ rfl; refine bs_ ?_; exact BK426.out⟩, ⟨at_ HB.out⟩⟩
  revert H; refine g_ (dt_ fun c23b0 H => ?_)
  (first | rw [c23b0] | (simp only [i64_w, i32_w]; rw [c23b0]) | skip)
  revert H; refine g_ (dt_ fun c24b0 H => ?_)
  have H' := mk_ H
  clear H
  have hnb25 := NB426_423.out
  have hnc25 := NB423_426.out
  have hcz26_0 := blk_cell BK426.out 0
  have hcz26_1 := blk_cell BK426.out 1
  have hcz26_2 := blk_cell BK426.out 2
  have hfz26_0 := blk_frozen BK426.out 0
  have hfz26_1 := blk_frozen BK426.out 1
  have hfz26_2 := blk_frozen BK426.out 2
  go_wp2_with (first | (refine gc_ 80 (some 45) Tryd.func80 #[.int .i64 ((rd_T68 l3_1 a4).f0), .int .i64 0, .int .i64 (wrap64 (a0 - 1))] ?_; (with_reducible refine (spec_l1In.calls ((rd_T68 l3_1 a4).f0) 0 (wrap64 (a0 - 1)) true _ A21.out).mono ?_); rintro e w' ⟨rfl, ⟨nd, rfl⟩⟩; refine ⟨_, rfl, ?_⟩; have p428 : 0 ≤ (((rd_T68 l3_1 a4).f0) : Int) := oa_; have q428 : ((rd_T68 l3_1 a4).f0) < (l5.length : Int) := oa_; obtain ⟨ad428, e428, hx428_0⟩ := Kd.at_int HR5.out ((rd_T68 l3_1 a4).f0) p428 q428; cases e428; have hn428_0 : ad428.block ≠ gb426 := Nat.ne_of_lt (Nat.lt_of_lt_of_le (by have := World.block_lt_of_cell? _ _ hx428_0; first | rwa [add_block] at this | exact this) GW426.out); have hn428_1 : ad428.block ≠ gb426 := Nat.ne_of_lt (Nat.lt_of_lt_of_le (by have := World.block_lt_of_cell? _ _ hx428_0; first | rwa [add_block] at this | exact this) GW426.out); have hn428_2 : ad428.block ≠ gb426 := Nat.ne_of_lt (Nat.lt_of_lt_of_le (by have := World.block_lt_of_cell? _ _ hx428_0; first | rwa [add_block] at this | exact this) GW426.out); replace hx428_0 := cel HB.out hx428_0; replace hx428_0 := (cell_far (p := ⟨gb426, 0, none⟩) (by first | (rw [add_block]; exact hn428_0) | (show (Addr.add _ _).block ≠ _; rw [add_block]; exact hn428_0) | exact hn428_0) (.int .i64 ((rd_T68 l3_1 a4).f0))).trans hx428_0; replace hx428_0 := (cell_far (p := ⟨gb426, 1, none⟩) (by first | (rw [add_block]; exact hn428_1) | (show (Addr.add _ _).block ≠ _; rw [add_block]; exact hn428_1) | exact hn428_1) (.int .i64 ((rd_T68 l3_1 a4).f1))).trans hx428_0; replace hx428_0 := (cell_far (p := ⟨gb426, 2, none⟩) (by first | (rw [add_block]; exact hn428_2) | (show (Addr.add _ _).block ≠ _; rw [add_block]; exact hn428_2) | exact hn428_2) (.int .i64 ((rd_T68 l3_1 a4).f2))).trans hx428_0; clear hn428_0; clear hn428_1; clear hn428_2; replace p428 := eq_true p428; replace q428 := eq_true q428))
  go_meet
  case rel => exact ⟨_, (decide ((rd l5 ((rd_T68 l3_1 a4).f0)) ≥ 0)), sm_, H', ⟨by first | omega | exact Nat.le_refl _⟩, ⟨by refine bs_ ?_; refine blk_far ?_ NB423_426.out _; refine bs_ ?_; refine blk_far ?_ NB423_426.out _; refine bs_ ?_; refine blk_far ?_ NB423_426.out _; refine bs_ ?_; exact BK423.out⟩, ⟨by refine bs_ ?_; refine blk_put (cs := #[.int .i64 ((rd_T68 l3_1 a4).f0), .int .i64 ((rd_T68 l3_1 a4).f1), .int .i64 0]) ?_ 2 _ rfl; refine bs_ ?_; refine blk_put (cs := #[.int .i64 ((rd_T68 l3_1 a4).f0), .int .i64 0, .int .i64 0]) ?_ 1 _ rfl; refine bs_ ?_; refine blk_put (cs := #[.int .i64 0, .int .i64 0, .int .i64 0]) ?_ 0 _ rfl; refine bs_ ?_; exact BK426.out⟩, ⟨at_ HB.out⟩⟩
 clear HC15
 try clear c1
 try clear c2
 try clear p2
 try clear c3
 try clear p4
 try clear q4
 try clear hx4
 try clear c5
 try clear p6
 try clear c7
 try clear c7b0
 try clear c8
 try clear c8b0
 try clear c13
 try clear c13b0
 try clear c14
 try clear c14b0
 try clear c19
 try clear c22
 try clear c23
 try clear c23b0
 try clear c24
 try clear c24b0
 try clear c25
 try clear c27
 try clear hcz17_0
 try clear hcz17_1
 try clear hcz20_0
 try clear hcz20_1
 try clear hcz20_2
 try clear hcz26_0
 try clear hcz26_1
 try clear hcz26_2
 try clear hcz28_0
 try clear hcz28_1
 try clear hcz28_2
 try clear hfz17_0
 try clear hfz17_1
 try clear hfz20_0
 try clear hfz20_1
 try clear hfz20_2
 try clear hfz26_0
 try clear hfz26_1
 try clear hfz26_2
 try clear hfz28_0
 try clear hfz28_1
 try clear hfz28_2
 try clear hx425_0
 try clear hx425_1
 try clear hx425_2
 try clear hx428_0
 try clear p425
 try clear p428
 try clear q425
 try clear q428
 obtain ⟨kq, x54_14, rfl, HA, HJ14, BK423, BK426, HB⟩ := hcut
 cases kq with
 | zero => exact absurd HA.out (by simp [spec_l11Checks.j0])
 | succ kj14 =>
  have H := HA.out
  clear HA
  simp only [spec_l11Checks.j0] at H
  revert H; refine ib_ ?_ ?_ <;> rintro rfl H
  ·simp only [Option.some.injEq, Prod.mk.injEq] at H
   obtain ⟨rfl, rfl⟩ := H
   go_wp2
   go_ret2
   exact ⟨er_, at_ HB.out⟩
  have H' := mk_ H
  clear H
  go_wp2
  go_loopg [15, 16] kj14 (fun kq v15 v16 w' => ∃ (x15_2 : Int) (x16_2 : Int), v15 = .int .i64 x15_2 ∧ v16 = .int .i64 x16_2 ∧ Aside0 (spec_l11Checks.l0 kq a0 l1 l2 a4 l5 x15_2 x16_2 a3_0 l3_1 ((rd_T68 l3_1 a4).f0) ((rd_T68 l3_1 a4).f1) ((rd_T68 l3_1 a4).f2) = some (r1, r2)) ∧ Aside0 (kq ≤ kj14) ∧ Aside0 (w'.heap[gb423]? = some (.cells #[.int .i64 a3_0, (.slice (some ad425) l3_1.length c3_1)] 27 (0, 0))) ∧ Aside0 (w'.heap[gb426]? = some (.cells #[.int .i64 ((rd_T68 l3_1 a4).f0), .int .i64 ((rd_T68 l3_1 a4).f1), .int .i64 ((rd_T68 l3_1 a4).f2)] 68 (0, 0))) ∧ Aside0 (Below w.heap.size w w'))
  case atStart => exact ⟨(1), (0), sm_, sm_, H', ⟨Nat.le_refl _⟩, ⟨by refine bs_ ?_; exact BK423.out⟩, ⟨by refine bs_ ?_; exact BK426.out⟩, ⟨at_ HB.out⟩⟩
  clear H'
  try clear c1
  try clear c2
  try clear p2
  try clear c3
  try clear p4
  try clear q4
  try clear hx4
  try clear c5
  try clear p6
  try clear c7
  try clear c7b0
  try clear c8
  try clear c8b0
  try clear c13
  try clear c13b0
  try clear c14
  try clear c14b0
  try clear c19
  try clear c22
  try clear c23
  try clear c23b0
  try clear c24
  try clear c24b0
  try clear c25
  try clear c27
  try clear c29
  try clear hcz17_0
  try clear hcz17_1
  try clear hcz20_0
  try clear hcz20_1
  try clear hcz20_2
  try clear hcz26_0
  try clear hcz26_1
  try clear hcz26_2
  try clear hcz28_0
  try clear hcz28_1
  try clear hcz28_2
  try clear hfz17_0
  try clear hfz17_1
  try clear hfz20_0
  try clear hfz20_1
  try clear hfz20_2
  try clear hfz26_0
  try clear hfz26_1
  try clear hfz26_2
  try clear hfz28_0
  try clear hfz28_1
  try clear hfz28_2
  try clear hx425_0
  try clear hx425_1
  try clear hx425_2
  try clear hx428_0
  try clear p2
  try clear p4
  try clear p425
  try clear p428
  try clear p6
  try clear q4
  try clear q425
  try clear q428
  obtain ⟨x15_2, x16_2, rfl, rfl, HA, HK2, BK423, BK426, HB⟩ := hrel
  cases gk with
  | zero => exact absurd HA.out (by simp [spec_l11Checks.l0])
  | succ k2 =>
   have H := HA.out
   clear HA
   simp only [spec_l11Checks.l0] at H
   revert H; refine ti_ (df_ fun c30b0 H => ?_) (dt_ fun c30b0 H => ?_)
   ·simp only [Option.some.injEq, Prod.mk.injEq] at H
    obtain ⟨rfl, rfl⟩ := H
    go_wp2
    go_ret2
    exact ⟨er_, at_ HB.out⟩
   have HC31 := mk_ H
   clear H
   have hnb32 := NB426_423.out
   have hnc32 := NB423_426.out
   have hcz33_0 : wr.cell? ⟨gb426, 0, none⟩ = some (.int .i64 ((rd_T68 l3_1 a4).f0)) := (blk_cell BK426.out 0).trans rfl
   have hcz33_1 : wr.cell? ⟨gb426, 1, none⟩ = some (.int .i64 ((rd_T68 l3_1 a4).f1)) := (blk_cell BK426.out 1).trans rfl
   have hcz33_2 : wr.cell? ⟨gb426, 2, none⟩ = some (.int .i64 ((rd_T68 l3_1 a4).f2)) := (blk_cell BK426.out 2).trans rfl
   have hfz33_0 := blk_frozen BK426.out 0
   have hfz33_1 := blk_frozen BK426.out 1
   have hfz33_2 := blk_frozen BK426.out 2
   go_upto_if 62 with (fail)
   go_cut [17] (fun v17 wc => ∃ (kq : Nat) (x17_30 : Int), v17 = .int .i64 x17_30 ∧ Aside0 (spec_l11Checks.j2 kq a0 l1 l2 a4 l5 x15_2 x16_2 x17_30 a3_0 l3_1 ((rd_T68 l3_1 a4).f0) ((rd_T68 l3_1 a4).f1) ((rd_T68 l3_1 a4).f2) = some (r1, r2)) ∧ Aside0 (kq ≤ k2) ∧ Aside0 (wc.heap[gb423]? = some (.cells #[.int .i64 a3_0, (.slice (some ad425) l3_1.length c3_1)] 27 (0, 0))) ∧ Aside0 (wc.heap[gb426]? = some (.cells #[.int .i64 ((rd_T68 l3_1 a4).f0), .int .i64 ((rd_T68 l3_1 a4).f1), .int .i64 ((rd_T68 l3_1 a4).f2)] 68 (0, 0))) ∧ Aside0 (Below w.heap.size w wc))
   case first =>
    have H := HC31.out
    clear HC31
    revert H; refine ti_ (qfk_ fun c34 c34b0 c34b1 H => ?_) (qt_ fun c34b0 c34b1 H => ?_)
    ·(first | rw [c34b0] | (simp only [i64_w, i32_w]; rw [c34b0]) | skip)
     have H' := mk_ H
     clear H
     go_wp2
     go_meet
     case rel => exact ⟨_, (((rd_T68 l3_1 a4).f1)), sm_, H', ⟨by have := HJ14.out; have := HK2.out; first | omega | exact Nat.le_refl _⟩, ⟨by refine bs_ ?_; exact BK423.out⟩, ⟨by refine bs_ ?_; exact BK426.out⟩, ⟨at_ HB.out⟩⟩
    (first | rw [c34b0] | (simp only [i64_w, i32_w]; rw [c34b0]) | skip)
    have H' := mk_ H
    clear H
    have hnb35 := NB426_423.out
    have hnc35 := NB423_426.out
    have hcz36_0 : wr.cell? ⟨gb426, 0, none⟩ = some (.int .i64 ((rd_T68 l3_1 a4).f0)) := (blk_cell BK426.out 0).trans rfl
    have hcz36_1 : wr.cell? ⟨gb426, 1, none⟩ = some (.int .i64 ((rd_T68 l3_1 a4).f1)) := (blk_cell BK426.out 1).trans rfl
    have hcz36_2 : wr.cell? ⟨gb426, 2, none⟩ = some (.int .i64 ((rd_T68 l3_1 a4).f2)) := (blk_cell BK426.out 2).trans rfl
    have hfz36_0 := blk_frozen BK426.out 0
    have hfz36_1 := blk_frozen BK426.out 1
    have hfz36_2 := blk_frozen BK426.out 2
    go_wp2
    go_meet
    case rel => exact ⟨_, (((rd_T68 l3_1 a4).f2)), sm_, H', ⟨by have := HJ14.out; have := HK2.out; first | omega | exact Nat.le_refl _⟩, ⟨by refine bs_ ?_; exact BK423.out⟩, ⟨by refine bs_ ?_; exact BK426.out⟩, ⟨at_ HB.out⟩⟩
   clear HC31
   try clear c1
   try clear c2
   try clear p2
   try clear c3
   try clear p4
   try clear q4
   try clear hx4
   try clear c5
   try clear p6
   try clear c7
   try clear c7b0
   try clear c8
   try clear c8b0
   try clear c13
   try clear c13b0
   try clear c14
   try clear c14b0
   try clear c19
   try clear c22
   try clear c23
   try clear c23b0
   try clear c24
   try clear c24b0
   try clear c25
   try clear c27
   try clear c29
   try clear c30
   try clear c30b0
   try clear c32
   try clear c34
   try clear c34b0
   try clear c34b1
   try clear c35
   try clear hcz17_0
   try clear hcz17_1
   try clear hcz20_0
   try clear hcz20_1
   try clear hcz20_2
   try clear hcz26_0
   try clear hcz26_1
   try clear hcz26_2
   try clear hcz28_0
   try clear hcz28_1
   try clear hcz28_2
   try clear hcz33_0
   try clear hcz33_1
   try clear hcz33_2
   try clear hcz36_0
   try clear hcz36_1
   try clear hcz36_2
   try clear hfz17_0
   try clear hfz17_1
   try clear hfz20_0
   try clear hfz20_1
   try clear hfz20_2
   try clear hfz26_0
   try clear hfz26_1
   try clear hfz26_2
   try clear hfz28_0
   try clear hfz28_1
   try clear hfz28_2
   try clear hfz33_0
   try clear hfz33_1
   try clear hfz33_2
   try clear hfz36_0
   try clear hfz36_1
   try clear hfz36_2
   try clear hx425_0
   try clear hx425_1
   try clear hx425_2
   try clear hx428_0
   try clear p2
   try clear p4
   try clear p425
   try clear p428
   try clear p6
   try clear q4
   try clear q425
   try clear q428
   obtain ⟨kq, x17_30, rfl, HA, HJ30, BK423, BK426, HB⟩ := hcut
   cases kq with
   | zero => exact absurd HA.out (by simp [spec_l11Checks.j2])
   | succ kj30 =>
    have H := HA.out
    clear HA
    simp only [spec_l11Checks.j2] at H
    have HC37 := mk_ H
    clear H
    go_upto_region 13 with (fail)
    go_cut [78] (fun v78 wc => ∃ (kq : Nat) (x78_36 : Bool), v78 = .bool x78_36 ∧ Aside0 (spec_l11Checks.j3 kq a0 l1 l2 a4 l5 x15_2 x16_2 x17_30 x78_36 a3_0 l3_1 ((rd_T68 l3_1 a4).f0) ((rd_T68 l3_1 a4).f1) ((rd_T68 l3_1 a4).f2) = some (r1, r2)) ∧ Aside0 (kq ≤ kj30) ∧ Aside0 (wc.heap[gb423]? = some (.cells #[.int .i64 a3_0, (.slice (some ad425) l3_1.length c3_1)] 27 (0, 0))) ∧ Aside0 (wc.heap[gb426]? = some (.cells #[.int .i64 ((rd_T68 l3_1 a4).f0), .int .i64 ((rd_T68 l3_1 a4).f1), .int .i64 ((rd_T68 l3_1 a4).f2)] 68 (0, 0))) ∧ Aside0 (Below w.heap.size w wc))
    case first =>
     have H := HC37.out
     clear HC37
     revert H; refine ti_ (df_e fun c38b0 H => ?_) (dt_e fun c38b0 H => ?_)
     ·(first | rw [c38b0] | (simp only [i64_w, i32_w]; rw [c38b0]) | skip)
      have H' := mk_ H
      clear H
      go_wp2
      go_meet
      case rel => exact ⟨_, (false), sm_, H', ⟨by have := HJ14.out; have := HK2.out; have := HJ30.out; first | omega | exact Nat.le_refl _⟩, ⟨by refine bs_ ?_; exact BK423.out⟩, ⟨by refine bs_ ?_; exact BK426.out⟩, ⟨at_ HB.out⟩⟩
     (first | rw [c38b0] | (simp only [i64_w, i32_w]; rw [c38b0]) | skip)
     revert H; refine it_ (dt_ fun c39b0 H => ?_) (df_ fun c39b0 H => ?_)
     ·have H' := mk_ H
      clear H
      go_wp2
      go_meet
      case rel => exact ⟨_, (true), sm_, H', ⟨by have := HJ14.out; have := HK2.out; have := HJ30.out; first | omega | exact Nat.le_refl _⟩, ⟨by refine bs_ ?_; exact BK423.out⟩, ⟨by refine bs_ ?_; exact BK426.out⟩, ⟨at_ HB.out⟩⟩
     have H' := mk_ H
     clear H
     have hnb40 := NB423_426.out
     have hnc40 := NB426_423.out
     have hcz41_0 : wc.cell? ⟨gb423, 0, none⟩ = some (.int .i64 a3_0) := (blk_cell BK423.out 0).trans rfl
     have hcz41_1 : wc.cell? ⟨gb423, 1, none⟩ = some (.slice (some ad425) l3_1.length c3_1) := (blk_cell BK423.out 1).trans rfl
     have hfz41_0 := blk_frozen BK423.out 0
     have hfz41_1 := blk_frozen BK423.out 1
     go_wp2
     go_meet
     case rel => exact ⟨_, (decide (x17_30 ≥ (l3_1.length : Int))), sm_, H', ⟨by have := HJ14.out; have := HK2.out; have := HJ30.out; first | omega | exact Nat.le_refl _⟩, ⟨by refine bs_ ?_; exact BK423.out⟩, ⟨by refine bs_ ?_; exact BK426.out⟩, ⟨at_ HB.out⟩⟩
    clear HC37
    try clear c1
    try clear c2
    try clear p2
    try clear c3
    try clear c4
    try clear p4
    try clear q4
    try clear hx4
    try clear c5
    try clear p6
    try clear c7
    try clear c7b0
    try clear c8
    try clear c8b0
    try clear c13
    try clear c13b0
    try clear c14
    try clear c14b0
    try clear c19
    try clear c22
    try clear c23
    try clear c23b0
    try clear c24
    try clear c24b0
    try clear c25
    try clear c27
    try clear c29
    try clear c30
    try clear c30b0
    try clear c32
    try clear c34
    try clear c34b0
    try clear c34b1
    try clear c35
    try clear c38
    try clear c38b0
    try clear c39
    try clear c39b0
    try clear c40
    try clear hcz17_0
    try clear hcz17_1
    try clear hcz20_0
    try clear hcz20_1
    try clear hcz20_2
    try clear hcz26_0
    try clear hcz26_1
    try clear hcz26_2
    try clear hcz28_0
    try clear hcz28_1
    try clear hcz28_2
    try clear hcz33_0
    try clear hcz33_1
    try clear hcz33_2
    try clear hcz36_0
    try clear hcz36_1
    try clear hcz36_2
    try clear hcz41_0
    try clear hcz41_1
    try clear hfz17_0
    try clear hfz17_1
    try clear hfz20_0
    try clear hfz20_1
    try clear hfz20_2
    try clear hfz26_0
    try clear hfz26_1
    try clear hfz26_2
    try clear hfz28_0
    try clear hfz28_1
    try clear hfz28_2
    try clear hfz33_0
    try clear hfz33_1
    try clear hfz33_2
    try clear hfz36_0
    try clear hfz36_1
    try clear hfz36_2
    try clear hfz41_0
    try clear hfz41_1
    try clear hx425_0
    try clear hx425_1
    try clear hx425_2
    try clear hx428_0
    try clear p2
    try clear p4
    try clear p425
    try clear p428
    try clear p6
    try clear q4
    try clear q425
    try clear q428
    obtain ⟨kq, x78_36, rfl, HA, HJ36, BK423, BK426, HB⟩ := hcut
    cases kq with
    | zero => exact absurd HA.out (by simp [spec_l11Checks.j3])
    | succ kj36 =>
     have H := HA.out
     clear HA
     simp only [spec_l11Checks.j3] at H
     revert H; refine ib_ ?_ ?_ <;> rintro rfl H
     ·simp only [Option.some.injEq, Prod.mk.injEq] at H
      obtain ⟨rfl, rfl⟩ := H
      go_wp2
      go_ret2
      exact ⟨er_, at_ HB.out⟩
     obtain ⟨y429, hy429⟩ : ∃ y_ : List Int, y_ = (([] : List Int)) := ⟨_, rfl⟩
     replace H : (if y429.length + l5.length < 17592186044416 then ((some (y429 ++ l5 : List Int)).bind fun y432 => (if 0 ≤ ((rd_T68 l3_1 a4).f0) then (if ((rd_T68 l3_1 a4).f0) < (y432.length : Int) then ((spec_l11Checks.f kj36 a0 l1 l2 a3_0 l3_1 x17_30 (y432.set (((rd_T68 l3_1 a4).f0) : Int).toNat x16_2)).bind fun bt436 => (if bt436.2 = true then (spec_l11Checks.l0 kj36 a0 l1 l2 a4 l5 (wrap64 (x15_2 + bt436.1)) (wrap64 (x16_2 + 1)) a3_0 l3_1 ((rd_T68 l3_1 a4).f0) ((rd_T68 l3_1 a4).f1) ((rd_T68 l3_1 a4).f2)) else (some (0, false)))) else (none)) else (none))) else (none)) = some (r1, r2) := by first | (rw [hy429]; exact H) | exact H
     have Ny429 := mk_ hy429
     clear hy429
     revert H; refine g_ (mt_ fun LMc43 H => ?_)
     obtain ⟨y432, hy432⟩ : ∃ y_ : List Int, y_ = (y429 ++ l5) := ⟨_, rfl⟩
     first | (replace H := bn_ hy432 H; try dsimp only at H) | rw [← hy432] at H
     have Ny432 := mk_ hy432
     clear hy432
     revert H; refine g_ (dt_ fun c44b0 => g_ (dt_ fun c45b0 H => ?_))
     obtain ⟨y435, hy435⟩ : ∃ y_ : List Int, y_ = (y432.set (((rd_T68 l3_1 a4).f0) : Int).toNat x16_2) := ⟨_, rfl⟩
     first | (replace H := bn_ hy435 H; try dsimp only at H) | rw [← hy435] at H
     have Ny435 := mk_ hy435
     clear hy435
     replace H := bm_ H; obtain ⟨⟨t436, t437⟩, A47, H⟩ := H
     try dsimp only at H
     go_upto_region 18 with (first | ((with_reducible refine gate_dst (N := 79) rfl ?_); (try (refine gate_guard (by rfl) ?_; dsimp only)); refine Kd.R_lit (Kd.int .i64) _ 3 ?hg (N := 79) ?hd (xs := ([] : List Int)) (inner := []) (ok := fun _ => True) (okp := fun _ => True) ?hr ?hp (fun _ hk => hk) trivial (Below.refl _ _) (Nat.le_refl _) (by simp) ?_; (case hd => rfl); (case hg => rfl); (case hr => first | (go_simp; done) | (go_simp; rfl)); (case hp => exact (Reps.none _ _)); intro v430 w49 ho50 hb hg_ hnew_; clear hg_ hnew_; (first | rw [← Ny429.out] at ho50 | (simp only [Int.reduceToNat] at ho50; rw [← Ny429.out] at ho50)); have HO431 := mk_ (Kd.R_lower ho50 (below_size (at_ HB.out))); replace BK423 := mk_ (blk_at BK423.out hb); replace BK426 := mk_ (blk_at BK426.out hb); replace HB := mk_ (below_step (at_ HB.out) hb); clear hb ho50) | ((with_reducible refine gate_builtin (b := .append) (xs := #[.tmp 79, .tmp 80]) rfl ?_); (try (refine gate_guard (by rfl) ?_; dsimp only)); at_builtin; refine Kd.R_append_rows (Kd.int .i64) (w0 := w) w.heap.size rfl (.tmp 79) (.tmp 80) 103 3 (.int .i64 0) 8 rfl Tryd.underlying103 info3 rfl (by decide) (by omega) v430 y429 l5 _ _ _ (fun _ => True) (fun _ => False) rfl rfl ?aO ?aR (fun _ _ h => h) (fun _ h => h.elim) ?aF ?aB ?aS ?aL ?_; (case aR => exact Kd.C_below (Kd.C_below HR5.out HB.out) lt_); (case aB => exact (at_ HB.out)); (case aF => exact (fun _ _ => trivial)); (case aO => exact (Kd.R_below HO431.out lt_)); (case aS => exact (below_size (at_ HB.out))); (case aL => have := LMc43.out; omega); intro v433 w51 ho hb hg hat; rw [← Ny432.out] at ho; replace BK423 := mk_ (blk_grown (g := gb423) (o := .cells #[.int .i64 a3_0, .slice (some ad425) l3_1.length c3_1] 27 (0, 0)) (bk_ BK423.out) hg (Kd.R_ne HO431.out BK423.out (by decide))); replace BK426 := mk_ (blk_grown (g := gb426) (o := .cells #[.int .i64 ((rd_T68 l3_1 a4).f0), .int .i64 ((rd_T68 l3_1 a4).f1), .int .i64 ((rd_T68 l3_1 a4).f2)] 68 (0, 0)) (bk_ BK426.out) hg (Kd.R_ne HO431.out BK426.out (by decide))); replace HB := mk_ (hb); have HO434 := mk_ (ho); (try clear HO431); clear ho hb hg hat; have hnb52 := NB426_423.out; have hnc52 := NB423_426.out; have hcz53_0 := blk_cell BK426.out 0; have hcz53_1 := blk_cell BK426.out 1; have hcz53_2 := blk_cell BK426.out 2; have hfz53_0 := blk_frozen BK426.out 0; have hfz53_1 := blk_frozen BK426.out 1; have hfz53_2 := blk_frozen BK426.out 2; have p46 : 0 ≤ (((rd_T68 l3_1 a4).f0) : Int) := oa_; have q46 : (((rd_T68 l3_1 a4).f0) : Int) < ((y432.length : Int) : Int) := oa_; obtain ⟨go46, co46, eo46, gb46, gl46, cl46, HG46⟩ := Kd.R_form HO434.out (by omega); (first | cases eo46 | (injection eo46 with ea_ en_ ec_; (first | subst ea_ | (injection ea_ with ea_; subst ea_)); subst ec_; clear en_)); have GB46 := mk_ gb46; have GG46 := mk_ HG46; clear gb46 gl46 HG46; obtain ⟨hx46_0, hf46_0⟩ := Kd.R_celln 0 HO434.out (((rd_T68 l3_1 a4).f0) : Int) p46 q46; replace p46 := eq_true p46; replace q46 := eq_true q46; obtain ⟨hy54_, hz54_⟩ := Kd.R_celln 0 HO434.out (((rd_T68 l3_1 a4).f0) : Int) (oa_) (oa_); have HP54 := Kd.R_putg HO434.out (((rd_T68 l3_1 a4).f0) : Int) x16_2) | ((with_reducible refine gate_store (t := 3) (p := 86) rfl ?_); refine store_event (t := 3) (p := 86) (v := ?vo_w55) (w1 := (w51.setCell ⟨go46, (((rd_T68 l3_1 a4).f0) : Int).toNat, none⟩ (.int .i64 x16_2))) ?hg ?ho ?hn ?hr ?_; (case ho => rfl); (case hg => rfl); (case hn => rfl); (case hr => first | (go_simp; done) | (go_simp; rfl)); intro w55 hw; have hg : w51.grownBy w55 (some go46) := (by rw [hw]; exact HP54.2); have hp_ : Kd.R (Kd.int .i64) 3 w55 w.heap.size (fun _ => True) (.slice (some ⟨go46, 0, none⟩) y432.length co46) y435 := (by rw [hw, Ny435.out]; exact HP54.1); clear HP54; replace BK423 := mk_ (blk_grown (g := gb423) (o := .cells #[.int .i64 a3_0, .slice (some ad425) l3_1.length c3_1] 27 (0, 0)) (bk_ BK423.out) hg (Kd.R_ne HO434.out BK423.out (by decide))); replace BK426 := mk_ (blk_grown (g := gb426) (o := .cells #[.int .i64 ((rd_T68 l3_1 a4).f0), .int .i64 ((rd_T68 l3_1 a4).f1), .int .i64 ((rd_T68 l3_1 a4).f2)] 68 (0, 0)) (bk_ BK426.out) hg (Kd.R_ne HO434.out BK426.out (by decide))); replace HO434 := mk_ (hp_); replace HB := mk_ ((by rw [hw]; exact below_set (HB.out) GB46.out : Below w.heap.size w w55)); clear hg hw hp_; have hcz56_0 := blk_cell BK423.out 0; have hcz56_1 := blk_cell BK423.out 1; have hfz56_0 := blk_frozen BK423.out 0; have hfz56_1 := blk_frozen BK423.out 1) | ((with_reducible refine gate_callee (f := 59) rfl ?_); refine goesL_ (some 94) rfl rfl Tryd.func59 (by kernel_rfl) rfl #[.int .i64 a0, .slice A1 l1.length c1, .slice A2 l2.length c2, .agg #[.int .i64 a3_0, .slice (some ad425) l3_1.length c3_1], .int .i64 x17_30, .slice (some ⟨go46, 0, none⟩) y435.length co46] rfl (by (try simp only [List.map_toArray, List.map_cons, List.map_nil]); first | done | (rw [show y435.length = y432.length from (Kd.R_reads' HO434.out).1.symm] <;> rfl) | rfl | (simp only [List.length_drop, List.length_take]; rfl)) ?_; (with_reducible refine (ih kj36 (by have := HJ14.out; have := HK2.out; have := HJ30.out; have := HJ36.out; omega) a0 _ _ l1 _ _ l2 a3_0 _ _ l3_1 x17_30 _ _ y435 t436 t437 _ ?side1 ?side2 ?side3 ?side4 ?side5 ?side6 ?side7 ?side8 A47.out).mono ?_); (case side1 => exact Kd.C_below (Kd.C_below HR1.out HB.out) lt_); (case side2 => exact HC1.out); (case side3 => exact Kd.C_below (Kd.C_below HR2.out HB.out) lt_); (case side4 => exact HC2.out); (case side5 => exact Kd.C_below (Kd.C_below HR3_1.out HB.out) lt_); (case side6 => exact HC3_1.out); (case side7 => exact Kd.C_below (Kd.R_reads' HO434.out).2.2 lt_); (case side8 => rw [show y435.length = y432.length from (Kd.R_reads' HO434.out).1.symm]; exact (Kd.R_reads' HO434.out).2.1); rintro e w57 ⟨rfl, hb⟩; refine ⟨_, rfl, ?_⟩; replace BK423 := mk_ (blk_at BK423.out hb); replace BK426 := mk_ (blk_at BK426.out hb); replace HB := mk_ (below_step (at_ HB.out) hb); (try clear HO434); (try clear hb)))
     revert H; refine bi_ ?_ ?_ <;> rintro rfl H
     ·simp only [Option.some.injEq, Prod.mk.injEq] at H
      obtain ⟨rfl, rfl⟩ := H
      go_wp2
      go_ret2
      exact ⟨er_, at_ HB.out⟩
     have H' := mk_ H
     clear H
     go_wp2
     go_roundg kj36
     case measure => have := HJ14.out; have := HK2.out; have := HJ30.out; have := HJ36.out; omega
     case rel => exact ⟨(wrap64 (x15_2 + t436)), (wrap64 (x16_2 + 1)), sm_, sm_, H', ⟨by have := HJ14.out; have := HK2.out; have := HJ30.out; have := HJ36.out; omega⟩, ⟨by refine bs_ ?_; exact BK423.out⟩, ⟨by refine bs_ ?_; exact BK426.out⟩, ⟨at_ HB.out⟩⟩
end Go.Proofs.YtcaogllnbpmcgaaDoor.P

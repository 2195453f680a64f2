/- Go's functions come to just the answers of the Lean functions told here. -/
import Derived.Test.YtcaogllnbpmcgaaDoorPx7
namespace Go.Proofs.YtcaogllnbpmcgaaDoor.P
open Go.RowKit Go.Proofs.YtcaogllnbpmcgaaDoorW.PrintWords Go.Proofs.YtcaogllnbpmcgaaDoorW.PrintLast Go.Proofs.YtcaogllnbpmcgaaDoorW.PrintMore
attribute [local go_sem] max2_int min2_int max_two min_two max_three min_three max_four min_four
set_option linter.unusedVariables false
set_option linter.unusedSimpArgs false
def spec_l11Closes.f (k : Nat) (a0 : Int) (l1 : List (S79)) (l2 : List (S82)) (a3 : Int) (l4 : List Int) : Option (Bool) := (spec_l11Agree.f k a0 l4).bind fun t235 => (if a3 = (-1) then ((spec_l3Table.f k a0 l2).bind fun t236 => (some ((Go.bits .andNot .i64 t235 t236) == 0))) else ((spec_l1In.f (wrap64 ((-2) - a3)) 0 (wrap64 ((l1.length : Int) - 1))).bind fun t237 => (if t237 = true then (if 0 ≤ (wrap64 ((-2) - a3)) then (if (wrap64 ((-2) - a3)) < (l1.length : Int) then ((spec_l4Table.f k a0 ((rd_T79 l1 (wrap64 ((-2) - a3))).f0) ((rd_T79 l1 (wrap64 ((-2) - a3))).f1)).bind fun t239 => (some ((Go.bits .and .i64 t235 t239) == 0))) else (none)) else (none)) else (some false))))
set_option maxHeartbeats 8000000 in
set_option maxRecDepth 100000 in
theorem spec_l11Closes.calls (k : Nat) (a0 : Int) (A1 : Option Addr) (c1 : Nat) (l1 : List (S79)) (A2 : Option Addr) (c2 : Nat) (l2 : List (S82)) (a3 : Int) (A4 : Option Addr) (c4 : Nat) (l4 : List Int) (r : Bool) (w : World) (hr1 : Kd.C k79 w A1 l1.length l1) (hc1 : l1.length ≤ c1) (hr2 : Kd.C k82 w A2 l2.length l2) (hc2 : l2.length ≤ c2) (hr4 : Kd.C (Kd.int .i64) w A4 l4.length l4) (hc4 : l4.length ≤ c4) (h : spec_l11Closes.f k a0 l1 l2 a3 l4 = some r) :
  Calls Tryd.prog 81 #[.int .i64 a0, .slice A1 l1.length c1, .slice A2 l2.length c2, .int .i64 a3, .slice A4 l4.length c4] w fun e w' => e = .returned (.bool r) ∧ Below w.heap.size w w' := by
 have hu79 := Tryd.underlying79
 have HR1 := mk_ hr1
 have HC1 := mk_ hc1
 clear hr1 hc1
 have HR2 := mk_ hr2
 have HC2 := mk_ hc2
 clear hr2 hc2
 have HR4 := mk_ hr4
 have HC4 := mk_ hc4
 clear hr4 hc4
 have HB := mk_ (Below.refl w.heap.size w)
 unfold spec_l11Closes.f at h
 have H := h
 clear h
 revert H; refine bd_ fun t235 A6 H => ?_
 try dsimp only at H
 revert H; refine it_ (qt_ fun c7b0 c7b1 H => ?_) (qfk_ fun c7 c7b0 c7b1 H => ?_)
 ·revert H; refine bd_ fun t236 A8 H => ?_
  try dsimp only at H
  obtain rfl := Option.some.inj H
  go_enter Tryd.func81, Tryd.ntmps81
  go_wp2_with (first | (refine gc_ 91 (some 14) Tryd.func91 #[.int .i64 a0, .slice A4 l4.length c4] ?_; (with_reducible refine (spec_l11Agree.calls k a0 _ _ l4 t235 _ ?side1 ?side2 A6.out).mono ?_); (case side1 => exact Kd.C_below HR4.out lt_); (case side2 => exact HC4.out); rintro e w' ⟨rfl, ⟨nd, rfl⟩⟩; refine ⟨_, rfl, ?_⟩) | (refine gc_ 92 (some 20) Tryd.func92 #[.int .i64 a0, .slice A2 l2.length c2] ?_; (with_reducible refine (spec_l3Table.calls k a0 _ _ l2 t236 _ ?side1 ?side2 A8.out).mono ?_); (case side1 => exact Kd.C_below HR2.out lt_); (case side2 => exact HC2.out); rintro e w' ⟨rfl, ⟨nd, rfl⟩⟩; refine ⟨_, rfl, ?_⟩))
  go_ret
  exact ⟨er_, below_at HB.out⟩
 revert H; refine bd_ fun t237 A9 H => ?_
 try dsimp only at H
 revert H; refine bi_ ?_ ?_ <;> rintro rfl H
 ·obtain rfl := Option.some.inj H
  go_enter Tryd.func81, Tryd.ntmps81
  go_wp2_with (first | (refine gc_ 91 (some 14) Tryd.func91 #[.int .i64 a0, .slice A4 l4.length c4] ?_; (with_reducible refine (spec_l11Agree.calls k a0 _ _ l4 t235 _ ?side1 ?side2 A6.out).mono ?_); (case side1 => exact Kd.C_below HR4.out lt_); (case side2 => exact HC4.out); rintro e w' ⟨rfl, ⟨nd, rfl⟩⟩; refine ⟨_, rfl, ?_⟩) | (refine gc_ 80 (some 28) Tryd.func80 #[.int .i64 (wrap64 ((-2) - a3)), .int .i64 0, .int .i64 (wrap64 ((l1.length : Int) - 1))] ?_; (with_reducible refine (spec_l1In.calls (wrap64 ((-2) - a3)) 0 (wrap64 ((l1.length : Int) - 1)) false _ A9.out).mono ?_); rintro e w' ⟨rfl, ⟨nd, rfl⟩⟩; refine ⟨_, rfl, ?_⟩))
  go_ret
  exact ⟨er_, below_at HB.out⟩
 obtain ⟨ji11, hji11⟩ : ∃ j_ : Int, (wrap64 ((-2) - a3)) = j_ := ⟨_, rfl⟩
 first | rw [hji11] at H | simp only [hji11] at H
 (try rw [hji11] at A6)
 (try rw [hji11] at A9)
 have hji11w : (IntKind.i64.wrap ((-2) - a3)) = ji11 := (i64_w _).trans hji11
 revert H; refine g_ (dt_ fun c12b0 => g_ (dt_ fun c13b0 => bd_ fun t239 A14 H => ?_))
 try dsimp only at H
 obtain rfl := Option.some.inj H
 go_enter Tryd.func81, Tryd.ntmps81
 go_wp2_with (first | (refine gc_ 91 (some 14) Tryd.func91 #[.int .i64 a0, .slice A4 l4.length c4] ?_; (with_reducible refine (spec_l11Agree.calls k a0 _ _ l4 t235 _ ?side1 ?side2 A6.out).mono ?_); (case side1 => exact Kd.C_below HR4.out lt_); (case side2 => exact HC4.out); rintro e w' ⟨rfl, ⟨nd, rfl⟩⟩; refine ⟨_, rfl, ?_⟩) | ((with_reducible refine gate_callee (f := 80) rfl ?_); refine goesL_ (some 28) rfl rfl Tryd.func80 (by kernel_rfl) rfl #[.int .i64 ji11, .int .i64 0, .int .i64 (wrap64 ((l1.length : Int) - 1))] rfl (by (try simp only [List.map_toArray, List.map_cons, List.map_nil]); first | done | (simp only [hji11]; rfl) | rfl | (simp only [List.length_drop, List.length_take]; rfl)) ?_; (with_reducible refine (spec_l1In.calls ji11 0 (wrap64 ((l1.length : Int) - 1)) true _ A9.out).mono ?_); rintro e w' ⟨rfl, ⟨nd, rfl⟩⟩; refine ⟨_, rfl, ?_⟩; have p238 : 0 ≤ ((ji11) : Int) := oa_; have q238 : (ji11) < (l1.length : Int) := oa_; obtain ⟨ad238, A238_1, c238_1, e238, hx238_0, hx238_1, hl238_1, hi238_1⟩ := at_T79 HR1.out (ji11) p238 q238; cases e238; have HR238_1 := mk_ hi238_1; have HC238_1 := mk_ hl238_1; clear hi238_1 hl238_1; replace p238 := eq_true p238; replace q238 := eq_true q238) | (go_at_call 93; (with_reducible refine (spec_l4Table.calls k a0 ((rd_T79 l1 (ji11)).f0) _ _ ((rd_T79 l1 (ji11)).f1) t239 _ ?side1 ?side2 A14.out).mono ?_); (case side1 => exact Kd.C_below HR238_1.out lt_); (case side2 => exact HC238_1.out); rintro e w15 ⟨rfl, hb⟩; replace HB := mk_ (below_step (below_at HB.out) hb); (try clear hb)))
 go_ret
 exact ⟨by first | rfl | (simp [errW_none, errW_some] <;> rfl) | (simp only [← hji11]; first | rfl | (simp [errW_none, errW_some] <;> rfl)) | (simp [*, errW_none, errW_some] <;> rfl), below_at HB.out⟩
mutual
def spec_l11Grow.l0 : Nat → Int → List (S79) → List (S82) → List Int → List (S68) → Int → Int → Option ((List (S68)) × Int × Bool)
 | 0, _, _, _, _, _, _, _ => none
 | k + 1, x0, x1, x2, x3, x4, x13, x14 => if x14 < (x1.length : Int) then ((spec_l11Closes.f k x0 x1 x2 (wrap64 ((-2) - x14)) x3).bind fun t241 => (if t241 = true then (some (x4, wrap64 ((-2) - x14), true)) else (spec_l11Grow.l0 k x0 x1 x2 x3 x4 x13 (wrap64 (x14 + 1))))) else (spec_l11Grow.l1 k x0 x1 x2 x3 x4 x13 (wrap64 (x0 - 1)))
def spec_l11Grow.l1 : Nat → Int → List (S79) → List (S82) → List Int → List (S68) → Int → Int → Option ((List (S68)) × Int × Bool)
 | 0, _, _, _, _, _, _, _ => none
 | k + 1, x0, x1, x2, x3, x4, x13, x15 => if x15 ≥ 0 then (if 0 ≤ x15 then (if x15 < (x3.length : Int) then (if (rd x3 x15) < 0 then (spec_l11Grow.l1 k x0 x1 x2 x3 x4 x15 (wrap64 (x15 - 1))) else (spec_l11Grow.l1 k x0 x1 x2 x3 x4 x13 (wrap64 (x15 - 1)))) else (none)) else (none)) else (if x13 < 0 then (some (x4, (-1), false)) else ((some (([] : List (S68)) : List (S68))).bind fun y243 => (if y243.length + x4.length < 5864062014805 then ((some (y243 ++ x4 : List (S68))).bind fun y246 => (if y246.length < 5864062014805 then ((some (([] : List Int) : List Int)).bind fun y252 => (if y252.length + x3.length < 17592186044416 then ((some (y252 ++ x3 : List Int)).bind fun y255 => (if 0 ≤ x13 then (if x13 < (y255.length : Int) then ((some (([] : List Int) : List Int)).bind fun y259 => (if y259.length + x3.length < 17592186044416 then ((some (y259 ++ x3 : List Int)).bind fun y262 => (if x13 < (y262.length : Int) then ((spec_l11Grow.f k x0 x1 x2 (y255.set (x13 : Int).toNat 0) (y246 ++ [(⟨x13, (-1), (-1)⟩ : S68)])).bind fun bt266 => ((spec_l11Grow.f k x0 x1 x2 (y262.set (x13 : Int).toNat 1) bt266.1).bind fun bt271 => (if 0 ≤ (x4.length : Int) then (if (x4.length : Int) < (bt271.1.length : Int) then ((some (bt271.1.set ((x4.length : Int) : Int).toNat (⟨x13, bt266.2.1, bt271.2.1⟩ : S68) : List (S68))).bind fun y276 => (if bt266.2.2 = true then (some (y276, (x4.length : Int), bt271.2.2)) else (some (y276, (x4.length : Int), false)))) else (none)) else (none)))) else (none))) else (none))) else (none)) else (none))) else (none))) else (none))) else (none))))
def spec_l11Grow.f : Nat → Int → List (S79) → List (S82) → List Int → List (S68) → Option ((List (S68)) × Int × Bool)
 | 0, _, _, _, _, _ => none
 | k + 1, a0, l1, l2, l3, l4 => (spec_l11Closes.f k a0 l1 l2 (-1) l3).bind fun t240 => (if t240 = true then (some (l4, (-1), true)) else (spec_l11Grow.l0 k a0 l1 l2 l3 l4 (-1) 0))
end
set_option maxHeartbeats 8000000 in
set_option maxRecDepth 100000 in
theorem spec_l11Grow.calls (k : Nat) : ∀ (a0 : Int) (A1 : Option Addr) (c1 : Nat) (l1 : List (S79)) (A2 : Option Addr) (c2 : Nat) (l2 : List (S82)) (A3 : Option Addr) (c3 : Nat) (l3 : List Int) (P4_ : Nat → Prop) (u9000_ : Value) (l4 : List (S68)) (r1 : List (S68)) (r2 : Int) (r3 : Bool) (w0 w : World) (hB : Below w0.heap.size w0 w) (hr1 : ∀ W_, Kept w W_ (fun k_ => P4_ k_) → Kd.C k79 W_ A1 l1.length l1) (hc1 : l1.length ≤ c1) (hr2 : ∀ W_, Kept w W_ (fun k_ => P4_ k_) → Kd.C k82 W_ A2 l2.length l2) (hc2 : l2.length ≤ c2) (hr3 : ∀ W_, Kept w W_ (fun k_ => P4_ k_) → Kd.C (Kd.int .i64) W_ A3 l3.length l3) (hc3 : l3.length ≤ c3) (ho4 : Kd.R k68 68 w w0.heap.size P4_ u9000_ l4) (h : spec_l11Grow.f k a0 l1 l2 l3 l4 = some (r1, r2, r3)),
  Calls Tryd.prog 77 #[.int .i64 a0, .slice A1 l1.length c1, .slice A2 l2.length c2, .slice A3 l3.length c3, u9000_] w fun e w' => ∃ v0_ : Value, e = .returned (.tuple #[v0_, .int .i64 r2, .bool r3]) ∧ Kd.R k68 68 w' w0.heap.size (fun k_ => (P4_ k_ ∨ w.heap.size ≤ k_)) v0_ r1 ∧ Below w0.heap.size w0 w' ∧ Kept w w' (fun k_ => P4_ k_) := by
 induction k using Nat.strongRecOn with
 | _ k ih =>
 intro a0 A1 c1 l1 A2 c2 l2 A3 c3 l3 P4_ u9000_ l4 r1 r2 r3 w0 w hB hr1 hc1 hr2 hc2 hr3 hc3 ho4 h
 cases k with
 | zero => exact absurd h (by simp [spec_l11Grow.f])
 | succ k =>
 simp only [spec_l11Grow.f] at h
 have hu68 := Tryd.underlying68
 have HR1 := mk_ hr1
 have HC1 := mk_ hc1
 clear hr1 hc1
 have HR2 := mk_ hr2
 have HC2 := mk_ hc2
 clear hr2 hc2
 have HR3 := mk_ hr3
 have HC3 := mk_ hc3
 clear hr3 hc3
 have HO4 := mk_ (show Kd.R k68 68 w w0.heap.size (fun k_ => (P4_ k_ ∨ w.heap.size ≤ k_)) u9000_ l4 from Kd.R_mono ho4 (fun k_ hk => (.inl hk)))
 have HK := mk_ (Kept.refl w (fun k_ => P4_ k_))
 have HW0 := mk_ hB.size
 have HB := mk_ hB
 clear hB
 have H : ((spec_l11Closes.f k a0 l1 l2 (-1) l3).bind fun t240 => (if t240 = true then (some (l4, (-1), true)) else (spec_l11Grow.l0 k a0 l1 l2 l3 l4 (-1) 0))) = some (r1, r2, r3) := h
 clear h
 revert H; refine bd_ fun t240 A6 H => ?_
 try dsimp only at H
 revert H; refine ib_ ?_ ?_ <;> rintro rfl H
 ·simp only [Option.some.injEq, Prod.mk.injEq] at H
  obtain ⟨rfl, rfl, rfl⟩ := H
  go_enter Tryd.func77, Tryd.ntmps77
  go_wp2_with (first | (refine gc_ 81 (some 27) Tryd.func81 #[.int .i64 a0, .slice A1 l1.length c1, .slice A2 l2.length c2, .int .i64 (-1), .slice A3 l3.length c3] ?_; (with_reducible refine (spec_l11Closes.calls k a0 _ _ l1 _ _ l2 (-1) _ _ l3 true _ ?side1 ?side2 ?side3 ?side4 ?side5 ?side6 A6.out).mono ?_); (case side1 => exact Kd.C_kept_now HR1.out (kp_ HK.out)); (case side2 => exact HC1.out); (case side3 => exact Kd.C_kept_now HR2.out (kp_ HK.out)); (case side4 => exact HC2.out); (case side5 => exact Kd.C_kept_now HR3.out (kp_ HK.out)); (case side6 => exact HC3.out); rintro e w8 ⟨rfl, hb⟩; refine ⟨_, rfl, ?_⟩; replace HO4 := mk_ (Kd.R_below (Kd.R_below HO4.out lt_) hb); replace HK := mk_ (Kept.below (S := (fun k_ => P4_ k_)) (kp_ HK.out) hb); replace HB := mk_ (below_step (below_at HB.out) hb); (try clear hb)))
  go_ret3
  exact ⟨_, er_, rl_ HO4.out, below_at HB.out, kp_ HK.out⟩
 have H' := mk_ H
 clear H
 go_enter Tryd.func77, Tryd.ntmps77
 go_wp2_with (first | (refine gc_ 81 (some 27) Tryd.func81 #[.int .i64 a0, .slice A1 l1.length c1, .slice A2 l2.length c2, .int .i64 (-1), .slice A3 l3.length c3] ?_; (with_reducible refine (spec_l11Closes.calls k a0 _ _ l1 _ _ l2 (-1) _ _ l3 false _ ?side1 ?side2 ?side3 ?side4 ?side5 ?side6 A6.out).mono ?_); (case side1 => exact Kd.C_kept_now HR1.out (kp_ HK.out)); (case side2 => exact HC1.out); (case side3 => exact Kd.C_kept_now HR2.out (kp_ HK.out)); (case side4 => exact HC2.out); (case side5 => exact Kd.C_kept_now HR3.out (kp_ HK.out)); (case side6 => exact HC3.out); rintro e w9 ⟨rfl, hb⟩; refine ⟨_, rfl, ?_⟩; replace HO4 := mk_ (Kd.R_below (Kd.R_below HO4.out lt_) hb); replace HK := mk_ (Kept.below (S := (fun k_ => P4_ k_)) (kp_ HK.out) hb); replace HB := mk_ (below_step (below_at HB.out) hb); (try clear hb)))
 go_loopg [14] k (fun kq v14 w' => ∃ (x14_1 : Int), v14 = .int .i64 x14_1 ∧ Aside0 (spec_l11Grow.l0 kq a0 l1 l2 l3 l4 (-1) x14_1 = some (r1, r2, r3)) ∧ Aside0 (kq ≤ k) ∧ Aside0 (Kd.R k68 68 w' w0.heap.size (fun k_ => (P4_ k_ ∨ w.heap.size ≤ k_)) u9000_ l4) ∧ Aside0 (Kept w w' (fun k_ => P4_ k_)) ∧ Aside0 (Below w0.heap.size w0 w'))
 case atStart => exact ⟨(0), sm_, H', ⟨Nat.le_refl _⟩, ⟨Kd.R_below HO4.out lt_⟩, ⟨kp_ HK.out⟩, ⟨below_at HB.out⟩⟩
 clear H'
 try clear c1
 try clear c2
 try clear p2
 try clear c3
 try clear c7
 try clear c8
 obtain ⟨x14_1, rfl, HA, HK1, HO_4, HK, HB⟩ := hrel
 cases gk with
 | zero => exact absurd HA.out (by simp [spec_l11Grow.l0])
 | succ k1 =>
  have H := HA.out
  clear HA
  simp only [spec_l11Grow.l0] at H
  revert H; refine it_ (dt_ fun c10b0 H => ?_) (df_ fun c10b0 H => ?_)
  ·revert H; refine bd_ fun t241 A11 H => ?_
   try dsimp only at H
   revert H; refine ib_ ?_ ?_ <;> rintro rfl H
   ·simp only [Option.some.injEq, Prod.mk.injEq] at H
    obtain ⟨rfl, rfl, rfl⟩ := H
    go_wp2_with (first | (refine gc_ 81 (some 41) Tryd.func81 #[.int .i64 a0, .slice A1 l1.length c1, .slice A2 l2.length c2, .int .i64 (wrap64 ((-2) - x14_1)), .slice A3 l3.length c3] ?_; (with_reducible refine (spec_l11Closes.calls k1 a0 _ _ l1 _ _ l2 (wrap64 ((-2) - x14_1)) _ _ l3 true _ ?side1 ?side2 ?side3 ?side4 ?side5 ?side6 A11.out).mono ?_); (case side1 => exact Kd.C_kept_now HR1.out (kp_ HK.out)); (case side2 => exact HC1.out); (case side3 => exact Kd.C_kept_now HR2.out (kp_ HK.out)); (case side4 => exact HC2.out); (case side5 => exact Kd.C_kept_now HR3.out (kp_ HK.out)); (case side6 => exact HC3.out); rintro e w13 ⟨rfl, hb⟩; refine ⟨_, rfl, ?_⟩; replace HO_4 := mk_ (Kd.R_below (Kd.R_below HO_4.out lt_) hb); replace HK := mk_ (Kept.below (S := (fun k_ => P4_ k_)) (kp_ HK.out) hb); replace HB := mk_ (below_step (below_at HB.out) hb); (try clear hb)))
    go_ret3
    exact ⟨_, er_, rl_ HO_4.out, below_at HB.out, kp_ HK.out⟩
   have H' := mk_ H
   clear H
   go_wp2_with (first | (refine gc_ 81 (some 41) Tryd.func81 #[.int .i64 a0, .slice A1 l1.length c1, .slice A2 l2.length c2, .int .i64 (wrap64 ((-2) - x14_1)), .slice A3 l3.length c3] ?_; (with_reducible refine (spec_l11Closes.calls k1 a0 _ _ l1 _ _ l2 (wrap64 ((-2) - x14_1)) _ _ l3 false _ ?side1 ?side2 ?side3 ?side4 ?side5 ?side6 A11.out).mono ?_); (case side1 => exact Kd.C_kept_now HR1.out (kp_ HK.out)); (case side2 => exact HC1.out); (case side3 => exact Kd.C_kept_now HR2.out (kp_ HK.out)); (case side4 => exact HC2.out); (case side5 => exact Kd.C_kept_now HR3.out (kp_ HK.out)); (case side6 => exact HC3.out); rintro e w14 ⟨rfl, hb⟩; refine ⟨_, rfl, ?_⟩; replace HO_4 := mk_ (Kd.R_below (Kd.R_below HO_4.out lt_) hb); replace HK := mk_ (Kept.below (S := (fun k_ => P4_ k_)) (kp_ HK.out) hb); replace HB := mk_ (below_step (below_at HB.out) hb); (try clear hb)))
   go_roundg k1
   case measure => have := HK1.out; omega
   case rel => exact ⟨(wrap64 (x14_1 + 1)), sm_, H', ⟨by have := HK1.out; omega⟩, ⟨Kd.R_below HO_4.out lt_⟩, ⟨kp_ HK.out⟩, ⟨below_at HB.out⟩⟩
  have H' := mk_ H
  clear H
  go_wp2
  go_loopg [13, 15] k1 (fun kq v13 v15 w' => ∃ (x13_2 : Int) (x15_2 : Int), v13 = .int .i64 x13_2 ∧ v15 = .int .i64 x15_2 ∧ Aside0 (spec_l11Grow.l1 kq a0 l1 l2 l3 l4 x13_2 x15_2 = some (r1, r2, r3)) ∧ Aside0 (kq ≤ k1) ∧ Aside0 (Kd.R k68 68 w' w0.heap.size (fun k_ => (P4_ k_ ∨ w.heap.size ≤ k_)) u9000_ l4) ∧ Aside0 (Kept w w' (fun k_ => P4_ k_)) ∧ Aside0 (Below w0.heap.size w0 w'))
  case atStart => exact ⟨((-1)), (wrap64 (a0 - 1)), sm_, sm_, H', ⟨Nat.le_refl _⟩, ⟨Kd.R_below HO_4.out lt_⟩, ⟨kp_ HK.out⟩, ⟨below_at HB.out⟩⟩
  clear H'
  try clear c1
  try clear c2
  try clear p2
  try clear c3
  try clear p6
  try clear c7
  try clear c8
  try clear c10
  try clear c10b0
  try clear c12
  try clear p2
  obtain ⟨x13_2, x15_2, rfl, rfl, HA, HK2, HO_4, HK, HB⟩ := hrel
  cases gk with
  | zero => exact absurd HA.out (by simp [spec_l11Grow.l1])
  | succ k2 =>
   have H := HA.out
   clear HA
   simp only [spec_l11Grow.l1] at H
   revert H; refine it_ (dt_e fun c15b0 H => ?_) (df_e fun c15b0 H => ?_)
   ·revert H; refine g_ (dt_ fun c16b0 => g_ (dt_ fun c17b0 => it_ (dt_ fun c18b0 H => ?_) (df_ fun c18b0 H => ?_)))
    ·have H' := mk_ H
     clear H
     have p242 : 0 ≤ (x15_2 : Int) := oa_
     have q242 : x15_2 < (l3.length : Int) := oa_
     obtain ⟨ad242, e242, hx242_0⟩ := Kd.at_int (Kd.C_kept_now HR3.out HK.out) x15_2 p242 q242
     cases e242
     replace p242 := eq_true p242
     replace q242 := eq_true q242
     go_wp2
     go_roundg k2
     case measure => have := HK1.out; have := HK2.out; omega
     case rel => exact ⟨(x15_2), (wrap64 (x15_2 - 1)), sm_, sm_, H', ⟨by have := HK1.out; have := HK2.out; omega⟩, ⟨Kd.R_below HO_4.out lt_⟩, ⟨kp_ HK.out⟩, ⟨below_at HB.out⟩⟩
    have H' := mk_ H
    clear H
    have p242 : 0 ≤ (x15_2 : Int) := oa_
    have q242 : x15_2 < (l3.length : Int) := oa_
    obtain ⟨ad242, e242, hx242_0⟩ := Kd.at_int (Kd.C_kept_now HR3.out HK.out) x15_2 p242 q242
    cases e242
    replace p242 := eq_true p242
    replace q242 := eq_true q242
    go_wp2
    go_roundg k2
    case measure => have := HK1.out; have := HK2.out; omega
    case rel => exact ⟨(x13_2), (wrap64 (x15_2 - 1)), sm_, sm_, H', ⟨by have := HK1.out; have := HK2.out; omega⟩, ⟨Kd.R_below HO_4.out lt_⟩, ⟨kp_ HK.out⟩, ⟨below_at HB.out⟩⟩
   revert H; refine it_ (dt_ fun c19b0 H => ?_) (df_ fun c19b0 H => ?_)
   ·simp only [Option.some.injEq, Prod.mk.injEq] at H
    obtain ⟨rfl, rfl, rfl⟩ := H
    go_wp2
    go_ret3
    exact ⟨_, er_, rl_ HO_4.out, below_at HB.out, kp_ HK.out⟩
   obtain ⟨y243, hy243⟩ : ∃ y_ : List (S68), y_ = (([] : List (S68))) := ⟨_, rfl⟩
   replace H : (if y243.length + l4.length < 5864062014805 then ((some (y243 ++ l4 : List (S68))).bind fun y246 => (if y246.length < 5864062014805 then ((some (([] : List Int) : List Int)).bind fun y252 => (if y252.length + l3.length < 17592186044416 then ((some (y252 ++ l3 : List Int)).bind fun y255 => (if 0 ≤ x13_2 then (if x13_2 < (y255.length : Int) then ((some (([] : List Int) : List Int)).bind fun y259 => (if y259.length + l3.length < 17592186044416 then ((some (y259 ++ l3 : List Int)).bind fun y262 => (if x13_2 < (y262.length : Int) then ((spec_l11Grow.f k2 a0 l1 l2 (y255.set (x13_2 : Int).toNat 0) (y246 ++ [(⟨x13_2, (-1), (-1)⟩ : S68)])).bind fun bt266 => ((spec_l11Grow.f k2 a0 l1 l2 (y262.set (x13_2 : Int).toNat 1) bt266.1).bind fun bt271 => (if 0 ≤ (l4.length : Int) then (if (l4.length : Int) < (bt271.1.length : Int) then ((some (bt271.1.set ((l4.length : Int) : Int).toNat (⟨x13_2, bt266.2.1, bt271.2.1⟩ : S68) : List (S68))).bind fun y276 => (if bt266.2.2 = true then (some (y276, (l4.length : Int), bt271.2.2)) else (some (y276, (l4.length : Int), false)))) else (none)) else (none)))) else (none))) else (none))) else (none)) else (none))) else (none))) else (none))) else (none)) = some (r1, r2, r3) := by first | (rw [hy243]; exact H) | exact H
   have Ny243 := mk_ hy243
   clear hy243
   revert H; refine g_ (mt_ fun LMc20 H => ?_)
   obtain ⟨y246, hy246⟩ : ∃ y_ : List (S68), y_ = (y243 ++ l4) := ⟨_, rfl⟩
   first | (replace H := bn_ hy246 H; try dsimp only at H) | rw [← hy246] at H
   have Ny246 := mk_ hy246
   clear hy246
   revert H; refine g_ (mt_ fun LMc21 H => ?_)
   obtain ⟨y249, hy249⟩ : ∃ y_ : List (S68), y_ = (y246 ++ [(⟨x13_2, (-1), (-1)⟩ : S68)]) := ⟨_, rfl⟩
   first | (replace H := bn_ hy249 H; try dsimp only at H) | rw [← hy249] at H
   have Ny249 := mk_ hy249
   clear hy249
   obtain ⟨y252, hy252⟩ : ∃ y_ : List Int, y_ = (([] : List Int)) := ⟨_, rfl⟩
   replace H : (if y252.length + l3.length < 17592186044416 then ((some (y252 ++ l3 : List Int)).bind fun y255 => (if 0 ≤ x13_2 then (if x13_2 < (y255.length : Int) then ((some (([] : List Int) : List Int)).bind fun y259 => (if y259.length + l3.length < 17592186044416 then ((some (y259 ++ l3 : List Int)).bind fun y262 => (if x13_2 < (y262.length : Int) then ((spec_l11Grow.f k2 a0 l1 l2 (y255.set (x13_2 : Int).toNat 0) y249).bind fun bt266 => ((spec_l11Grow.f k2 a0 l1 l2 (y262.set (x13_2 : Int).toNat 1) bt266.1).bind fun bt271 => (if 0 ≤ (l4.length : Int) then (if (l4.length : Int) < (bt271.1.length : Int) then ((some (bt271.1.set ((l4.length : Int) : Int).toNat (⟨x13_2, bt266.2.1, bt271.2.1⟩ : S68) : List (S68))).bind fun y276 => (if bt266.2.2 = true then (some (y276, (l4.length : Int), bt271.2.2)) else (some (y276, (l4.length : Int), false)))) else (none)) else (none)))) else (none))) else (none))) else (none)) else (none))) else (none)) = some (r1, r2, r3) := by first | (rw [hy252]; exact H) | exact H
   have Ny252 := mk_ hy252
   clear hy252
   revert H; refine g_ (mt_ fun LMc22 H => ?_)
   obtain ⟨y255, hy255⟩ : ∃ y_ : List Int, y_ = (y252 ++ l3) := ⟨_, rfl⟩
   first | (replace H := bn_ hy255 H; try dsimp only at H) | rw [← hy255] at H
   have Ny255 := mk_ hy255
   clear hy255
   revert H; refine g_ (dt_ fun c23b0 => g_ (dt_ fun c24b0 H => ?_))
   obtain ⟨y258, hy258⟩ : ∃ y_ : List Int, y_ = (y255.set (x13_2 : Int).toNat 0) := ⟨_, rfl⟩
   first | (replace H := bn_ hy258 H; try dsimp only at H) | rw [← hy258] at H
   have Ny258 := mk_ hy258
   clear hy258
   obtain ⟨y259, hy259⟩ : ∃ y_ : List Int, y_ = (([] : List Int)) := ⟨_, rfl⟩
   replace H : (if y259.length + l3.length < 17592186044416 then ((some (y259 ++ l3 : List Int)).bind fun y262 => (if x13_2 < (y262.length : Int) then ((spec_l11Grow.f k2 a0 l1 l2 y258 y249).bind fun bt266 => ((spec_l11Grow.f k2 a0 l1 l2 (y262.set (x13_2 : Int).toNat 1) bt266.1).bind fun bt271 => (if 0 ≤ (l4.length : Int) then (if (l4.length : Int) < (bt271.1.length : Int) then ((some (bt271.1.set ((l4.length : Int) : Int).toNat (⟨x13_2, bt266.2.1, bt271.2.1⟩ : S68) : List (S68))).bind fun y276 => (if bt266.2.2 = true then (some (y276, (l4.length : Int), bt271.2.2)) else (some (y276, (l4.length : Int), false)))) else (none)) else (none)))) else (none))) else (none)) = some (r1, r2, r3) := by first | (rw [hy259]; exact H) | exact H
   have Ny259 := mk_ hy259
   clear hy259
   revert H; refine g_ (mt_ fun LMc26 H => ?_)
   obtain ⟨y262, hy262⟩ : ∃ y_ : List Int, y_ = (y259 ++ l3) := ⟨_, rfl⟩
   first | (replace H := bn_ hy262 H; try dsimp only at H) | rw [← hy262] at H
   have Ny262 := mk_ hy262
   clear hy262
   revert H; refine g_ (dt_ fun c27b0 H => ?_)
   obtain ⟨y265, hy265⟩ : ∃ y_ : List Int, y_ = (y262.set (x13_2 : Int).toNat 1) := ⟨_, rfl⟩
   first | (replace H := bn_ hy265 H; try dsimp only at H) | rw [← hy265] at H
   have Ny265 := mk_ hy265
   clear hy265
   replace H := bm_ H; obtain ⟨⟨t266, t269, t270⟩, A29, H⟩ := H
   try dsimp only at H
   replace H := bm_ H; obtain ⟨⟨t271, t274, t275⟩, A30, H⟩ := H
   try dsimp only at H
   revert H; refine g_ (fun c31 H => ?_)
   have c31b0 : decide (0 ≤ (l4.length : Int)) = true := decide_eq_true c31
   have c31b1 : decide (0 ≤ l4.length) = true := decide_eq_true (by omega)
   clear c31
   revert H; refine g_ (fun c32 H => ?_)
   have c32b0 : decide ((l4.length : Int) < (t271.length : Int)) = true := decide_eq_true c32
   have c32b1 : decide (l4.length < t271.length) = true := decide_eq_true (Int.ofNat_lt.mp c32)
   clear c32
   obtain ⟨y276, hy276⟩ : ∃ y_ : List (S68), y_ = (t271.set ((l4.length : Int) : Int).toNat (⟨x13_2, t269, t274⟩ : S68)) := ⟨_, rfl⟩
   first | (replace H := bn_ hy276 H; try dsimp only at H) | rw [← hy276] at H
   have Ny276 := mk_ hy276
   clear hy276
   obtain ⟨Ao35, co35, eo35⟩ := Kd.R_slice HO_4.out
   subst eo35
   go_upto_region 25 with (first | ((with_reducible refine gate_dst (N := 62) rfl ?_); refine Kd.R_lit k68 _ 68 ?hg (N := 62) ?hd (xs := ([] : List (S68))) (inner := []) (ok := fun _ => True) (okp := fun _ => True) ?hr ?hp (fun _ hk => hk) trivial (Below.refl _ _) (Nat.le_refl _) (by simp) ?_; (case hd => rfl); (case hg => rfl); (case hr => first | (go_simp; done) | (go_simp; rfl)); (case hp => exact (Reps.none _ _)); intro v244 w36 ho37 hb hg_ hnew_; clear hg_ hnew_; (first | rw [← Ny243.out] at ho37 | (simp only [Int.reduceToNat] at ho37; rw [← Ny243.out] at ho37)); have HO245 := mk_ (Kd.R_lower (Kd.R_new' (Kd.R_newM (M := fun k_ => (P4_ k_ ∨ w.heap.size ≤ k_)) ho37 (kp_ HK.out).1 (fun k_ h_ => .inr h_)) (Kd.R_lt (Kd.R_below HO_4.out lt_))) (below_size (below_at HB.out))); replace HO_4 := mk_ (Kd.R_elder' (Kd.R_below HO_4.out lt_) (Kd.R_base ho37) hb); replace HK := mk_ (Kept.below (S := (fun k_ => P4_ k_)) (kp_ HK.out) hb); replace HB := mk_ (below_step (below_at HB.out) hb); clear hb ho37) | ((with_reducible refine gate_builtin (b := .append) (xs := #[.tmp 62, .tmp 63]) rfl ?_); at_builtin; refine Kd.R_append_rows k68 (w0 := w0) w0.heap.size rfl (.tmp 62) (.tmp 63) 25 68 (.agg #[(.int .i64 0), (.int .i64 0), (.int .i64 0)]) 24 rfl Tryd.underlying25 info68 rfl (by decide) (by omega) v244 y243 l4 _ _ _ (fun k_ => (P4_ k_ ∨ w.heap.size ≤ k_) ∧ some k_ ≠ (.slice Ao35 l4.length co35 : Value).ownBlock) (fun _ => False) rfl rfl ?aO ?aR (fun _ _ h => h) (fun _ h => h.elim) ?aF ?aB ?aS ?aL ?_; (case aR => exact Kd.C_below (Kd.R_reads' HO_4.out).2.2 lt_); (case aB => exact (below_at HB.out)); (case aF => exact (fun k_ hk => ⟨(.inr (Nat.le_trans (kp_ HK.out).1 hk)), Kd.fresh' (Kd.R_lt (Kd.R_below HO_4.out lt_)) k_ hk⟩)); (case aO => exact (Kd.R_below (Kd.R_mono HO245.out (fun _ hk => ⟨hk.1.1, hk.2⟩)) lt_)); (case aS => exact (below_size (below_at HB.out))); (case aL => have := LMc20.out; omega); intro v247 w38 ho hb hg hat; rw [← Ny246.out] at ho; replace HO_4 := mk_ (Kd.R_after (ok := (fun k_ => (P4_ k_ ∨ w.heap.size ≤ k_))) (Kd.R_below HO_4.out lt_) hg hat); replace HB := mk_ (hb); replace HK := mk_ (Kept.of_grown (S := (fun k_ => P4_ k_)) hg (kp_ HK.out) (fun k_ e_ => (HO245.out.1 k_ e_).1.1)); have HO248 := mk_ (ho); (try clear HO245); clear ho hb hg hat) | ((with_reducible refine gate_builtin (b := .append) (xs := #[.tmp 64, .tmp 67]) rfl ?_); at_builtin; refine Kd.R_append k68 (w0 := w0) w0.heap.size rfl (.tmp 64) (.tmp 67) 25 68 (.agg #[(.int .i64 0), (.int .i64 0), (.int .i64 0)]) 24 rfl Tryd.underlying25 info68 rfl (by decide) (by omega) v247 y246 (⟨x13_2, (-1), (-1)⟩ : S68) [.int .i64 x13_2, .int .i64 (-1), .int .i64 (-1)] (fun k_ => (P4_ k_ ∨ w.heap.size ≤ k_) ∧ some k_ ≠ (.slice Ao35 l4.length co35 : Value).ownBlock) (fun _ => False) rfl rfl ?aP (fun _ hk => hk.elim) ?aF ?aO ?aB ?aS ?aL ?_; (case aP => exact k68_mkM _ _ _ (⟨x13_2, (-1), (-1)⟩ : S68)); (case aB => exact (below_at HB.out)); (case aF => exact (fun k_ hk => ⟨(.inr (Nat.le_trans (kp_ HK.out).1 hk)), Kd.fresh' (Kd.R_lt (Kd.R_below HO_4.out lt_)) k_ hk⟩)); (case aO => exact (Kd.R_below HO248.out lt_)); (case aS => exact (below_size (below_at HB.out))); (case aL => have := LMc21.out; omega); intro v250 w39 ho hb hg hat; rw [← Ny249.out] at ho; replace HO_4 := mk_ (Kd.R_after (ok := (fun k_ => (P4_ k_ ∨ w.heap.size ≤ k_))) (Kd.R_below HO_4.out lt_) hg hat); replace HB := mk_ (hb); replace HK := mk_ (Kept.of_grown (S := (fun k_ => P4_ k_)) hg (kp_ HK.out) (fun k_ e_ => (HO248.out.1 k_ e_).1)); have HO251 := mk_ (ho); (try clear HO248); clear ho hb hg hat) | ((with_reducible refine gate_dst (N := 69) rfl ?_); refine Kd.R_lit (Kd.int .i64) _ 3 ?hg (N := 69) ?hd (xs := ([] : List Int)) (inner := []) (ok := fun _ => True) (okp := fun _ => True) ?hr ?hp (fun _ hk => hk) trivial (Below.refl _ _) (Nat.le_refl _) (by simp) ?_; (case hd => rfl); (case hg => rfl); (case hr => first | (go_simp; done) | (go_simp; rfl)); (case hp => exact (Reps.none _ _)); intro v253 w40 ho41 hb hg_ hnew_; clear hg_ hnew_; (first | rw [← Ny252.out] at ho41 | (simp only [Int.reduceToNat] at ho41; rw [← Ny252.out] at ho41)); replace HO_4 := mk_ (Kd.R_below (Kd.R_below HO_4.out lt_) hb); replace HO251 := mk_ (Kd.R_below (Kd.R_below HO251.out lt_) hb); have HO254 := mk_ (Kd.R_lower (Kd.R_newM (M := fun k_ => (P4_ k_ ∨ w.heap.size ≤ k_)) ho41 (kp_ HK.out).1 (fun k_ h_ => .inr h_)) (below_size (below_at HB.out))); replace HK := mk_ (Kept.below (S := (fun k_ => P4_ k_)) (kp_ HK.out) hb); replace HB := mk_ (below_step (below_at HB.out) hb); clear hb ho41) | ((with_reducible refine gate_builtin (b := .append) (xs := #[.tmp 69, .tmp 70]) rfl ?_); at_builtin; refine Kd.R_append_rows (Kd.int .i64) (w0 := w0) w0.heap.size rfl (.tmp 69) (.tmp 70) 103 3 (.int .i64 0) 8 rfl Tryd.underlying103 info3 rfl (by decide) (by omega) v253 y252 l3 _ _ _ (fun k_ => (P4_ k_ ∨ w.heap.size ≤ k_)) (fun _ => False) rfl rfl ?aO ?aR (fun _ _ h => h) (fun _ h => h.elim) ?aF ?aB ?aS ?aL ?_; (case aR => exact Kd.C_kept_now HR3.out (kp_ HK.out)); (case aB => exact (below_at HB.out)); (case aF => exact (fun k_ hk => (.inr (Nat.le_trans (kp_ HK.out).1 hk)))); (case aO => exact (Kd.R_below (Kd.R_mono HO254.out (fun _ hk => hk.1)) lt_)); (case aS => exact (below_size (below_at HB.out))); (case aL => have := LMc22.out; omega); intro v256 w42 ho hb hg hat; rw [← Ny255.out] at ho; replace HO_4 := mk_ (Kd.R_over' (Kd.R_below HO_4.out lt_) (Kd.R_typed (Kd.R_below HO254.out lt_)) (by decide) hg); replace HO251 := mk_ (Kd.R_over' (Kd.R_below HO251.out lt_) (Kd.R_typed (Kd.R_below HO254.out lt_)) (by decide) hg); replace HB := mk_ (hb); replace HK := mk_ (Kept.of_grown (S := (fun k_ => P4_ k_)) hg (kp_ HK.out) (fun k_ e_ => (HO254.out.1 k_ e_).1)); have HO257 := mk_ (ho); (try clear HO254); clear ho hb hg hat; have p25 : 0 ≤ (x13_2 : Int) := oa_; have q25 : (x13_2 : Int) < ((y255.length : Int) : Int) := oa_; obtain ⟨go25, co25, eo25, gb25, gl25, cl25, HG25⟩ := Kd.R_form HO257.out (by omega); (first | cases eo25 | (injection eo25 with ea_ en_ ec_; (first | subst ea_ | (injection ea_ with ea_; subst ea_)); subst ec_; clear en_)); have GB25 := mk_ gb25; have GG25 := mk_ HG25; clear gb25 gl25 HG25; have HMgo25 := mk_ (show (P4_ go25 ∨ w.heap.size ≤ go25) from (HO257.out.1 _ rfl)); obtain ⟨hx25_0, hf25_0⟩ := Kd.R_celln 0 HO257.out (x13_2 : Int) p25 q25; replace p25 := eq_true p25; replace q25 := eq_true q25; obtain ⟨hy43_, hz43_⟩ := Kd.R_celln 0 HO257.out (x13_2 : Int) (oa_) (oa_); have HP43 := Kd.R_putg HO257.out (x13_2 : Int) 0) | ((with_reducible refine gate_store (t := 3) (p := 74) rfl ?_); refine store_event (t := 3) (p := 74) (v := ?vo_w44) (w1 := (w42.setCell ⟨go25, (x13_2 : Int).toNat, none⟩ (.int .i64 0))) ?hg ?ho ?hn ?hr ?_; (case ho => rfl); (case hg => rfl); (case hn => rfl); (case hr => first | (go_simp; done) | (go_simp; rfl)); intro w44 hw; have hg : w42.grownBy w44 (some go25) := (by rw [hw]; exact HP43.2); have hp_ : Kd.R (Kd.int .i64) 3 w44 w0.heap.size (fun k_ => (P4_ k_ ∨ w.heap.size ≤ k_)) (.slice (some ⟨go25, 0, none⟩) y255.length co25) y258 := (by rw [hw, Ny258.out]; exact HP43.1); clear HP43; replace HO_4 := mk_ (Kd.R_over' (v := (.slice (some ⟨go25, 0, none⟩) y255.length co25)) (Kd.R_below HO_4.out lt_) (Kd.R_typed HO257.out) (by decide) hg); replace HO251 := mk_ (Kd.R_over' (v := (.slice (some ⟨go25, 0, none⟩) y255.length co25)) (Kd.R_below HO251.out lt_) (Kd.R_typed HO257.out) (by decide) hg); replace HB := mk_ ((by rw [hw]; exact below_set (HB.out) GB25.out : Below w0.heap.size w0 w44)); replace HK := mk_ (Kept.of_grown (S := (fun k_ => P4_ k_)) hg (kp_ HK.out) (fun k_ e_ => (HO257.out.1 k_ e_))); replace HO257 := mk_ (hp_); clear hg hw hp_) | ((with_reducible refine gate_dst (N := 75) rfl ?_); refine Kd.R_lit (Kd.int .i64) _ 3 ?hg (N := 75) ?hd (xs := ([] : List Int)) (inner := []) (ok := fun _ => True) (okp := fun _ => True) ?hr ?hp (fun _ hk => hk) trivial (Below.refl _ _) (Nat.le_refl _) (by simp) ?_; (case hd => rfl); (case hg => rfl); (case hr => first | (go_simp; done) | (go_simp; rfl)); (case hp => exact (Reps.none _ _)); intro v260 w45 ho46 hb hg_ hnew_; clear hg_ hnew_; (first | rw [← Ny259.out] at ho46 | (simp only [Int.reduceToNat] at ho46; rw [← Ny259.out] at ho46)); replace HO_4 := mk_ (Kd.R_below (Kd.R_below HO_4.out lt_) hb); replace HO251 := mk_ (Kd.R_below (Kd.R_below HO251.out lt_) hb); have HO261 := mk_ (Kd.R_lower (Kd.R_new' (Kd.R_newM (M := fun k_ => (P4_ k_ ∨ w.heap.size ≤ k_)) ho46 (kp_ HK.out).1 (fun k_ h_ => .inr h_)) (Kd.R_lt (Kd.R_below HO257.out lt_))) (below_size (below_at HB.out))); replace HO257 := mk_ (Kd.R_elder' (Kd.R_below HO257.out lt_) (Kd.R_base ho46) hb); replace HK := mk_ (Kept.below (S := (fun k_ => P4_ k_)) (kp_ HK.out) hb); replace HB := mk_ (below_step (below_at HB.out) hb); clear hb ho46) | ((with_reducible refine gate_builtin (b := .append) (xs := #[.tmp 75, .tmp 76]) rfl ?_); at_builtin; refine Kd.R_append_rows (Kd.int .i64) (w0 := w0) w0.heap.size rfl (.tmp 75) (.tmp 76) 103 3 (.int .i64 0) 8 rfl Tryd.underlying103 info3 rfl (by decide) (by omega) v260 y259 l3 _ _ _ (fun k_ => (P4_ k_ ∨ w.heap.size ≤ k_) ∧ some k_ ≠ (.slice (some ⟨go25, 0, none⟩) y255.length co25 : Value).ownBlock) (fun _ => False) rfl rfl ?aO ?aR (fun _ _ h => h) (fun _ h => h.elim) ?aF ?aB ?aS ?aL ?_; (case aR => exact Kd.C_kept_now HR3.out (kp_ HK.out)); (case aB => exact (below_at HB.out)); (case aF => exact (fun k_ hk => ⟨(.inr (Nat.le_trans (kp_ HK.out).1 hk)), Kd.fresh' (Kd.R_lt (Kd.R_below HO257.out lt_)) k_ hk⟩)); (case aO => exact (Kd.R_below (Kd.R_mono HO261.out (fun _ hk => ⟨hk.1.1, hk.2⟩)) lt_)); (case aS => exact (below_size (below_at HB.out))); (case aL => have := LMc26.out; omega); intro v263 w47 ho hb hg hat; rw [← Ny262.out] at ho; replace HO_4 := mk_ (Kd.R_over' (Kd.R_below HO_4.out lt_) (Kd.R_typed (Kd.R_below HO261.out lt_)) (by decide) hg); replace HO251 := mk_ (Kd.R_over' (Kd.R_below HO251.out lt_) (Kd.R_typed (Kd.R_below HO261.out lt_)) (by decide) hg); replace HO257 := mk_ (Kd.R_after (ok := (fun k_ => (P4_ k_ ∨ w.heap.size ≤ k_))) (Kd.R_below HO257.out lt_) hg hat); replace HB := mk_ (hb); replace HK := mk_ (Kept.of_grown (S := (fun k_ => P4_ k_)) hg (kp_ HK.out) (fun k_ e_ => (HO261.out.1 k_ e_).1.1)); have HO264 := mk_ (ho); (try clear HO261); clear ho hb hg hat; have p28 : 0 ≤ (x13_2 : Int) := oa_; have q28 : (x13_2 : Int) < ((y262.length : Int) : Int) := oa_; obtain ⟨go28, co28, eo28, gb28, gl28, cl28, HG28⟩ := Kd.R_form HO264.out (by omega); (first | cases eo28 | (injection eo28 with ea_ en_ ec_; (first | subst ea_ | (injection ea_ with ea_; subst ea_)); subst ec_; clear en_)); have GB28 := mk_ gb28; have GG28 := mk_ HG28; clear gb28 gl28 HG28; have HMgo28 := mk_ (show (P4_ go28 ∨ w.heap.size ≤ go28) from (HO264.out.1 _ rfl).1); obtain ⟨hx28_0, hf28_0⟩ := Kd.R_celln 0 HO264.out (x13_2 : Int) p28 q28; replace p28 := eq_true p28; replace q28 := eq_true q28; obtain ⟨hy48_, hz48_⟩ := Kd.R_celln 0 HO264.out (x13_2 : Int) (oa_) (oa_); have HP48 := Kd.R_putg HO264.out (x13_2 : Int) 1) | ((with_reducible refine gate_store (t := 3) (p := 80) rfl ?_); refine store_event (t := 3) (p := 80) (v := ?vo_w49) (w1 := (w47.setCell ⟨go28, (x13_2 : Int).toNat, none⟩ (.int .i64 1))) ?hg ?ho ?hn ?hr ?_; (case ho => rfl); (case hg => rfl); (case hn => rfl); (case hr => first | (go_simp; done) | (go_simp; rfl)); intro w49 hw; have hg : w47.grownBy w49 (some go28) := (by rw [hw]; exact HP48.2); have hp_ : Kd.R (Kd.int .i64) 3 w49 w0.heap.size (fun k_ => (P4_ k_ ∨ w.heap.size ≤ k_) ∧ some k_ ≠ (.slice (some ⟨go25, 0, none⟩) y255.length co25 : Value).ownBlock) (.slice (some ⟨go28, 0, none⟩) y262.length co28) y265 := (by rw [hw, Ny265.out]; exact HP48.1); clear HP48; replace HO_4 := mk_ (Kd.R_over' (v := (.slice (some ⟨go28, 0, none⟩) y262.length co28)) (Kd.R_below HO_4.out lt_) (Kd.R_typed HO264.out) (by decide) hg); replace HO251 := mk_ (Kd.R_over' (v := (.slice (some ⟨go28, 0, none⟩) y262.length co28)) (Kd.R_below HO251.out lt_) (Kd.R_typed HO264.out) (by decide) hg); replace HO257 := mk_ (Kd.R_after (v := (.slice (some ⟨go28, 0, none⟩) y262.length co28)) (v1 := (.slice (some ⟨go28, 0, none⟩) y262.length co28)) (ok := (fun k_ => (P4_ k_ ∨ w.heap.size ≤ k_))) (Kd.R_below HO257.out lt_) hg (.inl rfl)); replace HB := mk_ ((by rw [hw]; exact below_set (HB.out) GB28.out : Below w0.heap.size w0 w49)); replace HK := mk_ (Kept.of_grown (S := (fun k_ => P4_ k_)) hg (kp_ HK.out) (fun k_ e_ => (HO264.out.1 k_ e_).1)); replace HO264 := mk_ (hp_); clear hg hw hp_; obtain ⟨Ao50, co50, eo50⟩ := Kd.R_slice HO251.out; subst eo50) | ((with_reducible refine gate_callee (f := 77) rfl ?_); refine goesL_ (some 87) rfl rfl Tryd.func77 (by kernel_rfl) rfl #[.int .i64 a0, .slice A1 l1.length c1, .slice A2 l2.length c2, .slice (some ⟨go25, 0, none⟩) y258.length co25, .slice Ao50 y249.length co50] rfl (by (try simp only [List.map_toArray, List.map_cons, List.map_nil]); first | done | (rw [show y258.length = y255.length from (Kd.R_reads' HO257.out).1.symm] <;> rfl) | rfl | (simp only [List.length_drop, List.length_take]; rfl)) ?_; (with_reducible refine (ih k2 (by have := HK1.out; have := HK2.out; omega) a0 _ _ l1 _ _ l2 _ _ y258 (fun k_ => some k_ = (.slice Ao50 y249.length co50 : Value).ownBlock) (.slice Ao50 y249.length co50) y249 t266 t269 t270 w0 _ ?side1 ?side2 ?side3 ?side4 ?side5 ?side6 ?side7 ?side8 A29.out).mono ?_); (case side1 => exact below_at HB.out); (case side2 => exact Kd.C_kept_call HR1.out (kp_ HK.out) (fun k_ hs_ => (fun e_ => (HO251.out.1 k_ e_.symm).1) hs_)); (case side3 => exact HC1.out); (case side4 => exact Kd.C_kept_call HR2.out (kp_ HK.out) (fun k_ hs_ => (fun e_ => (HO251.out.1 k_ e_.symm).1) hs_)); (case side5 => exact HC2.out); (case side6 => first | exact Kd.C_kept_own ((Kd.R_apart' HO257.out (Kd.R_typed HO251.out) (by decide))) (fun k_ hk_ hs_ => (hk_.2) hs_) | (rw [show y258.length = y255.length from (Kd.R_reads' HO257.out).1.symm]; exact Kd.C_kept_own ((Kd.R_apart' HO257.out (Kd.R_typed HO251.out) (by decide))) (fun k_ hk_ hs_ => (hk_.2) hs_))); (case side7 => rw [show y258.length = y255.length from (Kd.R_reads' HO257.out).1.symm]; exact (Kd.R_reads' HO257.out).2.1); (case side8 => exact Kd.R_tight rfl HO251.out); rintro e w51 ⟨v267, rfl, ho0, hb, hkp⟩; refine ⟨_, rfl, ?_⟩; replace HO264 := mk_ (Kd.R_mono (ok' := fun k_ => (P4_ k_ ∨ w.heap.size ≤ k_) ∧ some k_ ≠ (.slice (some ⟨go25, 0, none⟩) y255.length co25 : Value).ownBlock) (Kd.R_keptB ((Kd.R_apart' HO264.out (Kd.R_typed HO251.out) (by decide))) hkp (fun k_ hk_ hs_ => (hk_.2) hs_)) (fun k_ hk_ => ⟨hk_.1.1.1, hk_.1.1.2⟩)); have HO268 := mk_ (Kd.R_mono (ok' := fun k_ => (P4_ k_ ∨ w.heap.size ≤ k_) ∧ some k_ ≠ (.slice Ao35 l4.length co35 : Value).ownBlock) ho0 (fun k_ hk_ => ⟨Or.elim hk_ (fun hs_ => (HO251.out.1 k_ (hs_).symm).1) (fun hn_ => (.inr (Nat.le_trans (kp_ HK.out).1 hn_))), Or.elim hk_ (fun hs_ => fun e_ => (((HO_4.out).1 k_ e_.symm).2) hs_) (fun hn_ => (Kd.fresh' (Kd.R_lt (Kd.R_below HO_4.out lt_)) k_ hn_))⟩)); replace HO_4 := mk_ (Kd.R_mono (ok' := fun k_ => (P4_ k_ ∨ w.heap.size ≤ k_) ∧ some k_ ≠ (v267 : Value).ownBlock) (Kd.R_keptB (HO_4.out) hkp (fun k_ hk_ hs_ => (hk_.2) hs_)) (fun k_ hk_ => ⟨hk_.1.1, fun e_ => Or.elim (ho0.1 k_ e_.symm) (fun hs_ => hk_.2.1 hs_) (fun hn_ => Nat.not_le.2 hk_.2.2 hn_)⟩)); replace HK := mk_ (Kept.then_ (S := (fun k_ => P4_ k_)) (kp_ HK.out) hkp (fun k_ hs_ => (fun e_ => (HO251.out.1 k_ e_.symm).1) hs_)); replace HB := mk_ (hb); (try clear HO257 HO251); (try clear hb); (try clear hkp); (try clear ho0); obtain ⟨Ao52, co52, eo52⟩ := Kd.R_slice HO268.out; subst eo52) | ((with_reducible refine gate_callee (f := 77) rfl ?_); refine goesL_ (some 97) rfl rfl Tryd.func77 (by kernel_rfl) rfl #[.int .i64 a0, .slice A1 l1.length c1, .slice A2 l2.length c2, .slice (some ⟨go28, 0, none⟩) y265.length co28, .slice Ao52 t266.length co52] rfl (by (try simp only [List.map_toArray, List.map_cons, List.map_nil]); first | done | (rw [show y265.length = y262.length from (Kd.R_reads' HO264.out).1.symm] <;> rfl) | rfl | (simp only [List.length_drop, List.length_take]; rfl)) ?_; (with_reducible refine (ih k2 (by have := HK1.out; have := HK2.out; omega) a0 _ _ l1 _ _ l2 _ _ y265 (fun k_ => some k_ = (.slice Ao52 t266.length co52 : Value).ownBlock) (.slice Ao52 t266.length co52) t266 t271 t274 t275 w0 _ ?side1 ?side2 ?side3 ?side4 ?side5 ?side6 ?side7 ?side8 A30.out).mono ?_); (case side1 => exact below_at HB.out); (case side2 => exact Kd.C_kept_call HR1.out (kp_ HK.out) (fun k_ hs_ => (fun e_ => (HO268.out.1 k_ e_.symm).1) hs_)); (case side3 => exact HC1.out); (case side4 => exact Kd.C_kept_call HR2.out (kp_ HK.out) (fun k_ hs_ => (fun e_ => (HO268.out.1 k_ e_.symm).1) hs_)); (case side5 => exact HC2.out); (case side6 => first | exact Kd.C_kept_own ((Kd.R_apart' HO264.out (Kd.R_typed HO268.out) (by decide))) (fun k_ hk_ hs_ => (hk_.2) hs_) | (rw [show y265.length = y262.length from (Kd.R_reads' HO264.out).1.symm]; exact Kd.C_kept_own ((Kd.R_apart' HO264.out (Kd.R_typed HO268.out) (by decide))) (fun k_ hk_ hs_ => (hk_.2) hs_))); (case side7 => rw [show y265.length = y262.length from (Kd.R_reads' HO264.out).1.symm]; exact (Kd.R_reads' HO264.out).2.1); (case side8 => exact Kd.R_tight rfl HO268.out); rintro e w53 ⟨v272, rfl, ho0, hb, hkp⟩; refine ⟨_, rfl, ?_⟩; have HO273 := mk_ (Kd.R_mono (ok' := fun k_ => (P4_ k_ ∨ w.heap.size ≤ k_) ∧ some k_ ≠ (.slice Ao35 l4.length co35 : Value).ownBlock) ho0 (fun k_ hk_ => ⟨Or.elim hk_ (fun hs_ => (HO268.out.1 k_ (hs_).symm).1) (fun hn_ => (.inr (Nat.le_trans (kp_ HK.out).1 hn_))), Or.elim hk_ (fun hs_ => fun e_ => (((HO_4.out).1 k_ e_.symm).2) hs_) (fun hn_ => (Kd.fresh' (Kd.R_lt (Kd.R_below HO_4.out lt_)) k_ hn_))⟩)); replace HK := mk_ (Kept.then_ (S := (fun k_ => P4_ k_)) (kp_ HK.out) hkp (fun k_ hs_ => (fun e_ => (HO268.out.1 k_ e_.symm).1) hs_)); replace HB := mk_ (hb); (try clear HO_4 HO257 HO264 HO268); (try clear hb); (try clear hkp); (try clear ho0); have p33 : 0 ≤ ((l4.length : Int) : Int) := oa_; have q33 : ((l4.length : Int) : Int) < ((t271.length : Int) : Int) := oa_; obtain ⟨go33, co33, eo33, gb33, gl33, cl33, HG33⟩ := Kd.R_form HO273.out (by omega); (first | cases eo33 | (injection eo33 with ea_ en_ ec_; (first | subst ea_ | (injection ea_ with ea_; subst ea_)); subst ec_; clear en_)); have GB33 := mk_ gb33; have GG33 := mk_ HG33; clear gb33 gl33 HG33; have HMgo33 := mk_ (show (P4_ go33 ∨ w.heap.size ≤ go33) from (HO273.out.1 _ rfl).1); obtain ⟨ce33, hcl33, hM33, hcc33, hfr33⟩ := Kd.R_elem HO273.out z68 ((l4.length : Int) : Int) p33 q33; obtain rfl := k68_openM hM33; have hx33_0 : w53.cell? ⟨go33, l4.length * 3, none⟩ = some (.int .i64 ((rd_T68 t271 (l4.length : Int)).f0)) := hcc33 0 _ rfl; have hx33_1 : w53.cell? ⟨go33, l4.length * 3 + 1, none⟩ = some (.int .i64 ((rd_T68 t271 (l4.length : Int)).f1)) := hcc33 1 _ rfl; have hx33_2 : w53.cell? ⟨go33, l4.length * 3 + 2, none⟩ = some (.int .i64 ((rd_T68 t271 (l4.length : Int)).f2)) := hcc33 2 _ rfl; have hf33_0 : w53.frozen? ⟨go33, l4.length * 3, none⟩ = false := hfr33 0; have hf33_1 : w53.frozen? ⟨go33, l4.length * 3 + 1, none⟩ = false := hfr33 1; have hf33_2 : w53.frozen? ⟨go33, l4.length * 3 + 2, none⟩ = false := hfr33 2; (try clear hM33); clear hcl33 hcc33 hfr33; replace p33 := eq_true p33; replace q33 := eq_true q33; have HX54 := mk_ (show Kd.R k68 68 w53 w0.heap.size (fun k_ => (P4_ k_ ∨ w.heap.size ≤ k_) ∧ some k_ ≠ (.slice Ao35 l4.length co35 : Value).ownBlock) (.slice (some ⟨go33, 0, none⟩) t271.length co33) t271 from (Kd.R_below HO273.out lt_)); obtain ⟨ce54, hcl54, hM54, hcc54, hfr54⟩ := Kd.R_elem HX54.out z68 ((l4.length : Int) : Int) (oa_) (by have h_ : ((l4.length : Int) : Int) < ((t271.length : Int) : Int) := oa_; first | exact h_ | (have e_ := (Kd.R_reads' HO273.out).1; omega) | simpa using h_); obtain rfl := k68_openM hM54; have HP54 := Kd.R_seg HX54.out ((l4.length : Int) : Int) (oa_) (by have h_ : ((l4.length : Int) : Int) < ((t271.length : Int) : Int) := oa_; first | exact h_ | (have e_ := (Kd.R_reads' HO273.out).1; omega) | simpa using h_) (seg := [.int .i64 x13_2, .int .i64 t269, .int .i64 t274]) (j := 0) hcl54 hcc54 (show 3 ≤ 3 from by decide) (x' := (⟨x13_2, t269, t274⟩ : S68)) (k68_mkM _ _ _ (⟨x13_2, t269, t274⟩ : S68) ) (fun _ hk => hk); have hx54_0 := hcc54 0 _ rfl; (try simp only [show (k68).sz = 3 from rfl, Nat.mul_one, Nat.add_zero, Int.toNat_natCast] at hx54_0); have hf54_0 := hfr54 0; (try simp only [show (k68).sz = 3 from rfl, Nat.mul_one, Nat.add_zero, Int.toNat_natCast] at hf54_0); have hx54_1 := hcc54 1 _ rfl; (try simp only [show (k68).sz = 3 from rfl, Nat.mul_one, Nat.add_zero, Int.toNat_natCast] at hx54_1); have hf54_1 := hfr54 1; (try simp only [show (k68).sz = 3 from rfl, Nat.mul_one, Nat.add_zero, Int.toNat_natCast] at hf54_1); have hx54_2 := hcc54 2 _ rfl; (try simp only [show (k68).sz = 3 from rfl, Nat.mul_one, Nat.add_zero, Int.toNat_natCast] at hx54_2); have hf54_2 := hfr54 2; (try simp only [show (k68).sz = 3 from rfl, Nat.mul_one, Nat.add_zero, Int.toNat_natCast] at hf54_2); (try clear hM54); clear hcl54 hcc54 hfr54) | ((with_reducible refine gate_store (t := 68) (p := 107) rfl ?_); refine store_event (t := 68) (p := 107) (v := ?vo_w55) (w1 := (((w53.setCell ⟨go33, l4.length * 3, none⟩ (.int .i64 x13_2)).setCell ⟨go33, l4.length * 3 + 1, none⟩ (.int .i64 t269)).setCell ⟨go33, l4.length * 3 + 2, none⟩ (.int .i64 t274))) ?hg ?ho ?hn ?hr ?_; (case ho => rfl); (case hg => rfl); (case hn => rfl); (case hr => first | (go_simp; done) | (go_simp; rfl)); intro w55 hw; have hg : w53.grownBy w55 (some go33) := (by rw [hw]; exact HP54.2); have hp_ : Kd.R k68 68 w55 w0.heap.size (fun k_ => (P4_ k_ ∨ w.heap.size ≤ k_) ∧ some k_ ≠ (.slice Ao35 l4.length co35 : Value).ownBlock) (.slice (some ⟨go33, 0, none⟩) t271.length co33) y276 := (by rw [hw, Ny276.out]; exact HP54.1); clear HP54; replace HB := mk_ ((by rw [hw]; exact below_set (below_set (below_set (HB.out) GB33.out) GB33.out) GB33.out : Below w0.heap.size w0 w55)); replace HK := mk_ (Kept.of_grown (S := (fun k_ => P4_ k_)) hg (kp_ HK.out) (fun k_ e_ => (HO273.out.1 k_ e_).1)); replace HO273 := mk_ (hp_); (try clear HO_4 HO257 HO264); clear hg hw hp_))
   revert H; refine ib_ ?_ ?_ <;> rintro rfl H
   ·simp only [Option.some.injEq, Prod.mk.injEq] at H
    obtain ⟨rfl, rfl, rfl⟩ := H
    go_wp2
    go_ret3
    exact ⟨_, er_, by (with_reducible repeat (first | apply Kd.R_alloc | apply Kd.R_drewN | apply Kd.R_drew)); exact Kd.R_mono HO273.out (fun _ hk => hk.1), below_at HB.out, kp_ HK.out⟩
   simp only [Option.some.injEq, Prod.mk.injEq] at H
   obtain ⟨rfl, rfl, rfl⟩ := H
   go_wp2
   go_ret3
   exact ⟨_, er_, by (with_reducible repeat (first | apply Kd.R_alloc | apply Kd.R_drewN | apply Kd.R_drew)); exact Kd.R_mono HO273.out (fun _ hk => hk.1), below_at HB.out, kp_ HK.out⟩
def spec_FindProof.j0 : Nat → Int → List (S79) → List (S82) → Bool → Option (Int × (List (S68)) × Bool)
 | 0, _, _, _, _ => none
 | k + 1, x0, x1, x2, x20 => if x20 = true then (some (0, ([] : List (S68)), false)) else ((spec_l11Nothing.f k x0).bind fun t280 => ((spec_l11Grow.f k x0 x1 x2 t280 (([] : List (S68)))).bind fun bt286 => (if bt286.2.2 = true then (some (bt286.2.1, bt286.1, true)) else (some (0, ([] : List (S68)), false)))))
def spec_FindProof.f (k : Nat) (a0 : Int) (l1 : List (S79)) (l2 : List (S82)) : Option (Int × (List (S68)) × Bool) := (spec_StoryOk.f k a0 l1).bind fun t278 => (if t278 = true then ((spec_TermOk.f k a0 l2).bind fun t279 => (spec_FindProof.j0 k a0 l1 l2 (!t279))) else (spec_FindProof.j0 k a0 l1 l2 true))
set_option maxHeartbeats 8000000 in
set_option maxRecDepth 100000 in
theorem spec_FindProof.calls (k : Nat) (a0 : Int) (A1 : Option Addr) (c1 : Nat) (l1 : List (S79)) (A2 : Option Addr) (c2 : Nat) (l2 : List (S82)) (r1 : Int) (r2 : List (S68)) (r3 : Bool) (w : World) (hr1 : Kd.C k79 w A1 l1.length l1) (hc1 : l1.length ≤ c1) (hr2 : Kd.C k82 w A2 l2.length l2) (hc2 : l2.length ≤ c2) (h : spec_FindProof.f k a0 l1 l2 = some (r1, r2, r3)) :
  Calls Tryd.prog 54 #[.int .i64 a0, .slice A1 l1.length c1, .slice A2 l2.length c2] w fun e w' => ∃ v1_ : Value, e = .returned (.tuple #[.agg #[.int .i64 r1, v1_], .bool r3]) ∧ Kd.R k68 68 w' w.heap.size (fun _ => True) v1_ r2 ∧ Below w.heap.size w w' := by
 have hu27 := Tryd.underlying27
 have HR1 := mk_ hr1
 have HC1 := mk_ hc1
 clear hr1 hc1
 have HR2 := mk_ hr2
 have HC2 := mk_ hc2
 clear hr2 hc2
 have HB := mk_ (Below.refl w.heap.size w)
 unfold spec_FindProof.f at h
 have H := h
 clear h
 have HC4 := mk_ H
 clear H
 go_enter Tryd.func54, Tryd.ntmps54
 go_upto_region 1 with (first | (refine gx_ 6 #[.int .i64 0, .slice none 0 0] 27 ?_; intro gb277 hg w5 hbox hb; have BK277 := mk_ (hbox); have GW277 := gm_ hg HB.out; have GE277 := gm_ hg HB.out; replace HB := mk_ (below_step (below_at HB.out) hb); clear hb hbox hg))
 (try simp only [Act.put, z0_, z1_, z2_])
 go_cut [20] (fun v20 wc => ∃ (kq : Nat) (x20_3 : Bool), v20 = .bool x20_3 ∧ Aside0 (spec_FindProof.j0 kq a0 l1 l2 x20_3 = some (r1, r2, r3)) ∧ Aside0 (kq ≤ k) ∧ Aside0 (wc.heap[gb277]? = some (.cells #[.int .i64 0, (.slice none 0 0)] 27 (0, 0))) ∧ Aside0 (Below w.heap.size w wc))
 case first =>
  have H := HC4.out
  clear HC4
  revert H; refine bd_ fun t278 A6 H => ?_
  try dsimp only at H
  revert H; refine bi_ ?_ ?_ <;> rintro rfl H
  ·have H' := mk_ H
   clear H
   go_wp2_with (first | (refine gc_ 57 (some 13) Tryd.func57 #[.int .i64 a0, .slice A1 l1.length c1] ?_; (with_reducible refine (spec_StoryOk.calls k a0 _ _ l1 false _ ?side1 ?side2 A6.out).mono ?_); (case side1 => exact Kd.C_below (Kd.C_below HR1.out HB.out) lt_); (case side2 => exact HC1.out); rintro e w10 ⟨rfl, hb⟩; refine ⟨_, rfl, ?_⟩; replace BK277 := mk_ (blk_at BK277.out hb); replace HB := mk_ (below_step (at_ HB.out) hb); (try clear hb)))
   go_meet
   case rel => exact ⟨_, (true), sm_, H', ⟨by first | omega | exact Nat.le_refl _⟩, ⟨by refine bs_ ?_; exact BK277.out⟩, ⟨at_ HB.out⟩⟩
  revert H; refine bd_ fun t279 A8 H => ?_
  try dsimp only at H
  have H' := mk_ H
  clear H
  go_wp2_with (first | (refine gc_ 57 (some 13) Tryd.func57 #[.int .i64 a0, .slice A1 l1.length c1] ?_; (with_reducible refine (spec_StoryOk.calls k a0 _ _ l1 true _ ?side1 ?side2 A6.out).mono ?_); (case side1 => exact Kd.C_below (Kd.C_below HR1.out HB.out) lt_); (case side2 => exact HC1.out); rintro e w9 ⟨rfl, hb⟩; refine ⟨_, rfl, ?_⟩; replace BK277 := mk_ (blk_at BK277.out hb); replace HB := mk_ (below_step (at_ HB.out) hb); (try clear hb)) | (go_at_call 58; (with_reducible refine (spec_TermOk.calls k a0 _ _ l2 t279 _ ?side1 ?side2 A8.out).mono ?_); (case side1 => exact Kd.C_below (Kd.C_below HR2.out HB.out) lt_); (case side2 => exact HC2.out); rintro e w' ⟨rfl, ⟨nd, rfl⟩⟩))
  go_meet
  case rel => exact ⟨_, (!t279), sm_, H', ⟨by first | omega | exact Nat.le_refl _⟩, ⟨by refine bs_ ?_; exact BK277.out⟩, ⟨at_ HB.out⟩⟩
 clear HC4
 try clear c1
 try clear c2
 try clear p2
 try clear c5
 try clear c7
 obtain ⟨kq, x20_3, rfl, HA, HJ3, BK277, HB⟩ := hcut
 cases kq with
 | zero => exact absurd HA.out (by simp [spec_FindProof.j0])
 | succ kj3 =>
  have H := HA.out
  clear HA
  simp only [spec_FindProof.j0] at H
  revert H; refine ib_ ?_ ?_ <;> rintro rfl H
  ·simp only [Option.some.injEq, Prod.mk.injEq] at H
   obtain ⟨rfl, rfl, rfl⟩ := H
   have hcz12_0 : wc.cell? ⟨gb277, 0, none⟩ = some (.int .i64 0) := (blk_cell BK277.out 0).trans rfl
   have hcz12_1 : wc.cell? ⟨gb277, 1, none⟩ = some (.slice none 0 0) := (blk_cell BK277.out 1).trans rfl
   have hfz12_0 := blk_frozen BK277.out 0
   have hfz12_1 := blk_frozen BK277.out 1
   go_wp2
   refine bodyPost_ret (results_ct rfl _ _ gb277 27 #[.int .i64 0, .slice none 0 0] (0, 0) _ rfl (by refine bs_ ?_; refine blk_put (cs := #[.int .i64 0, .slice none 0 0]) ?_ 1 _ rfl; refine bs_ ?_; refine blk_put (cs := #[.int .i64 0, .slice none 0 0]) ?_ 0 _ rfl; refine bs_ ?_; exact BK277.out) Tryd.underlying27 rfl (by kernel_rfl)) rfl ?_
   exact ⟨_, er_, by first | exact Kd.R_nil _ _ _ _ _ | exact Kd.N_nil _ _ _ _ _ | exact Kd.V_nil _ _ _ _ _ | exact Kd.Q_nil _ _ _ _ _ | exact Kd.S_nil _ _ _ _ _, at_ HB.out⟩
  revert H; refine bd_ fun t280 A13 H => ?_
  try dsimp only at H
  obtain ⟨y283, hy283⟩ : ∃ y_ : List (S68), y_ = (([] : List (S68))) := ⟨_, rfl⟩
  replace H : ((spec_l11Grow.f kj3 a0 l1 l2 t280 y283).bind fun bt286 => (if bt286.2.2 = true then (some (bt286.2.1, bt286.1, true)) else (some (0, ([] : List (S68)), false)))) = some (r1, r2, r3) := by first | (rw [hy283]; exact H) | exact H
  have Ny283 := mk_ hy283
  clear hy283
  replace H := bm_ H; obtain ⟨⟨t286, t289, t290⟩, A14, H⟩ := H
  try dsimp only at H
  revert H; refine bi_ ?_ ?_ <;> rintro rfl H
  ·simp only [Option.some.injEq, Prod.mk.injEq] at H
   obtain ⟨rfl, rfl, rfl⟩ := H
   go_wp2_with (first | (refine gc_ 60 (some 27) Tryd.func60 #[.int .i64 a0] ?_; (with_reducible refine (spec_l11Nothing.calls kj3 a0 t280 _ A13.out).mono ?_); rintro e w24 ⟨v281, rfl, ho0, hb⟩; refine ⟨_, rfl, ?_⟩; have HO282 := mk_ (Kd.R_lower ho0 (below_size (at_ HB.out))); replace BK277 := mk_ (blk_at BK277.out hb); replace HB := mk_ (below_step (at_ HB.out) hb); (try clear hb); (try clear ho0)) | ((with_reducible refine gate_dst (N := 28) rfl ?_); refine Kd.R_lit k68 _ 68 ?hg (N := 28) ?hd (xs := ([] : List (S68))) (inner := []) (ok := fun _ => True) (okp := fun _ => True) ?hr ?hp (fun _ hk => hk) trivial (Below.refl _ _) (Nat.le_refl _) (by simp) ?_; (case hd => rfl); (case hg => rfl); (case hr => first | (go_simp; done) | (go_simp; rfl)); (case hp => exact (Reps.none _ _)); intro v284 w25 ho26 hb hg_ hnew_; clear hg_ hnew_; (first | rw [← Ny283.out] at ho26 | (simp only [Int.reduceToNat] at ho26; rw [← Ny283.out] at ho26)); replace HO282 := mk_ (Kd.R_below (Kd.R_below HO282.out lt_) hb); have HO285 := mk_ (Kd.R_lower ho26 (below_size (at_ HB.out))); replace BK277 := mk_ (blk_at BK277.out hb); replace HB := mk_ (below_step (at_ HB.out) hb); clear hb ho26; obtain ⟨Ao27, co27, eo27⟩ := Kd.R_slice HO282.out; subst eo27; obtain ⟨Ao28, co28, eo28⟩ := Kd.R_slice HO285.out; subst eo28) | (refine gc_ 77 (some 29) Tryd.func77 #[.int .i64 a0, .slice A1 l1.length c1, .slice A2 l2.length c2, .slice Ao27 t280.length co27, .slice Ao28 y283.length co28] ?_; (with_reducible refine (spec_l11Grow.calls kj3 a0 _ _ l1 _ _ l2 _ _ t280 (fun k_ => some k_ = (.slice Ao28 y283.length co28 : Value).ownBlock) (.slice Ao28 y283.length co28) y283 t286 t289 false w _ ?side1 ?side2 ?side3 ?side4 ?side5 ?side6 ?side7 ?side8 A14.out).mono ?_); (case side1 => exact at_ HB.out); (case side2 => exact Kd.C_kept_came k79_heap HR1.out (at_ HB.out) (fun k_ hs_ => (fun e_ => Kd.R_base HO285.out k_ e_.symm) hs_)); (case side3 => exact HC1.out); (case side4 => exact Kd.C_kept_came k82_heap HR2.out (at_ HB.out) (fun k_ hs_ => (fun e_ => Kd.R_base HO285.out k_ e_.symm) hs_)); (case side5 => exact HC2.out); (case side6 => exact Kd.C_kept_own ((Kd.R_apart' HO282.out (Kd.R_typed HO285.out) (by decide))) (fun k_ hk_ hs_ => (hk_.2) hs_)); (case side7 => exact (Kd.R_reads' HO282.out).2.1); (case side8 => exact Kd.R_tight rfl HO285.out); rintro e w29 ⟨v287, rfl, ho0, hb, hkp⟩; refine ⟨_, rfl, ?_⟩; replace BK277 := mk_ (blk_kept (bk_ BK277.out) hkp (fun hs_ => (fun e_ => (Kd.R_ne HO285.out BK277.out (by decide)) e_) hs_)); replace HB := mk_ (hb); (try clear HO282 HO285); (try clear hb); (try clear hkp); (try clear ho0); have hcz30_0 := blk_cell BK277.out 0; have hcz30_1 := blk_cell BK277.out 1; have hfz30_0 := blk_frozen BK277.out 0; have hfz30_1 := blk_frozen BK277.out 1))
   refine bodyPost_ret (results_ct rfl _ _ gb277 27 #[.int .i64 0, .slice none 0 0] (0, 0) _ rfl (by refine bs_ ?_; refine blk_put (cs := #[.int .i64 0, .slice none 0 0]) ?_ 1 _ rfl; refine bs_ ?_; refine blk_put (cs := #[.int .i64 0, .slice none 0 0]) ?_ 0 _ rfl; refine bs_ ?_; exact BK277.out) Tryd.underlying27 rfl (by kernel_rfl)) rfl ?_
   exact ⟨_, er_, by first | exact Kd.R_nil _ _ _ _ _ | exact Kd.N_nil _ _ _ _ _ | exact Kd.V_nil _ _ _ _ _ | exact Kd.Q_nil _ _ _ _ _ | exact Kd.S_nil _ _ _ _ _, at_ HB.out⟩
  simp only [Option.some.injEq, Prod.mk.injEq] at H
  obtain ⟨rfl, rfl, rfl⟩ := H
  go_wp2_with (first | (refine gc_ 60 (some 27) Tryd.func60 #[.int .i64 a0] ?_; (with_reducible refine (spec_l11Nothing.calls kj3 a0 t280 _ A13.out).mono ?_); rintro e w16 ⟨v281, rfl, ho0, hb⟩; refine ⟨_, rfl, ?_⟩; have HO282 := mk_ (Kd.R_lower ho0 (below_size (at_ HB.out))); replace BK277 := mk_ (blk_at BK277.out hb); replace HB := mk_ (below_step (at_ HB.out) hb); (try clear hb); (try clear ho0)) | ((with_reducible refine gate_dst (N := 28) rfl ?_); refine Kd.R_lit k68 _ 68 ?hg (N := 28) ?hd (xs := ([] : List (S68))) (inner := []) (ok := fun _ => True) (okp := fun _ => True) ?hr ?hp (fun _ hk => hk) trivial (Below.refl _ _) (Nat.le_refl _) (by simp) ?_; (case hd => rfl); (case hg => rfl); (case hr => first | (go_simp; done) | (go_simp; rfl)); (case hp => exact (Reps.none _ _)); intro v284 w17 ho18 hb hg_ hnew_; clear hg_ hnew_; (first | rw [← Ny283.out] at ho18 | (simp only [Int.reduceToNat] at ho18; rw [← Ny283.out] at ho18)); replace HO282 := mk_ (Kd.R_below (Kd.R_below HO282.out lt_) hb); have HO285 := mk_ (Kd.R_lower ho18 (below_size (at_ HB.out))); replace BK277 := mk_ (blk_at BK277.out hb); replace HB := mk_ (below_step (at_ HB.out) hb); clear hb ho18; obtain ⟨Ao19, co19, eo19⟩ := Kd.R_slice HO282.out; subst eo19; obtain ⟨Ao20, co20, eo20⟩ := Kd.R_slice HO285.out; subst eo20) | (refine gc_ 77 (some 29) Tryd.func77 #[.int .i64 a0, .slice A1 l1.length c1, .slice A2 l2.length c2, .slice Ao19 t280.length co19, .slice Ao20 y283.length co20] ?_; (with_reducible refine (spec_l11Grow.calls kj3 a0 _ _ l1 _ _ l2 _ _ t280 (fun k_ => some k_ = (.slice Ao20 y283.length co20 : Value).ownBlock) (.slice Ao20 y283.length co20) y283 t286 t289 true w _ ?side1 ?side2 ?side3 ?side4 ?side5 ?side6 ?side7 ?side8 A14.out).mono ?_); (case side1 => exact at_ HB.out); (case side2 => exact Kd.C_kept_came k79_heap HR1.out (at_ HB.out) (fun k_ hs_ => (fun e_ => Kd.R_base HO285.out k_ e_.symm) hs_)); (case side3 => exact HC1.out); (case side4 => exact Kd.C_kept_came k82_heap HR2.out (at_ HB.out) (fun k_ hs_ => (fun e_ => Kd.R_base HO285.out k_ e_.symm) hs_)); (case side5 => exact HC2.out); (case side6 => exact Kd.C_kept_own ((Kd.R_apart' HO282.out (Kd.R_typed HO285.out) (by decide))) (fun k_ hk_ hs_ => (hk_.2) hs_)); (case side7 => exact (Kd.R_reads' HO282.out).2.1); (case side8 => exact Kd.R_tight rfl HO285.out); rintro e w21 ⟨v287, rfl, ho0, hb, hkp⟩; refine ⟨_, rfl, ?_⟩; replace BK277 := mk_ (blk_kept (bk_ BK277.out) hkp (fun hs_ => (fun e_ => (Kd.R_ne HO285.out BK277.out (by decide)) e_) hs_)); have HO288 := mk_ (Kd.R_mono (ok' := fun k_ => True) ho0 (fun k_ hk_ => trivial)); replace HB := mk_ (hb); (try clear HO282 HO285); (try clear hb); (try clear hkp); (try clear ho0); obtain ⟨Ao22, co22, eo22⟩ := Kd.R_slice HO288.out; subst eo22; have hcz23_0 := blk_cell BK277.out 0; have hcz23_1 := blk_cell BK277.out 1; have hfz23_0 := blk_frozen BK277.out 0; have hfz23_1 := blk_frozen BK277.out 1))
  refine bodyPost_ret (results_ct rfl _ _ gb277 27 #[.int .i64 t289, .slice Ao22 t286.length co22] (0, 0) _ rfl (by refine bs_ ?_; refine blk_put (cs := #[.int .i64 t289, .slice none 0 0]) ?_ 1 _ rfl; refine bs_ ?_; refine blk_put (cs := #[.int .i64 0, .slice none 0 0]) ?_ 0 _ rfl; refine bs_ ?_; exact BK277.out) Tryd.underlying27 rfl (by kernel_rfl)) rfl ?_
  exact ⟨_, er_, by (with_reducible repeat (first | apply Kd.R_alloc | apply Kd.R_drewN | apply Kd.R_drew)); exact Kd.R_mono (Kd.R_far (p := ⟨gb277, 1, none⟩) (Kd.R_far (p := ⟨gb277, 0, none⟩) (Kd.R_types HO288.out BK277.out (by decide)) (fun _ hk => hk.2) (.int .i64 t289)) (fun _ hk => hk.2) (.slice Ao22 t286.length co22)) (fun _ hk => trivial), at_ HB.out⟩
end Go.Proofs.YtcaogllnbpmcgaaDoor.P

/- Go's functions come to just the answers of the Lean functions told here. -/
import Derived.Test.YtcaogllnbpmcgaaDoorPx6
namespace Go.Proofs.YtcaogllnbpmcgaaDoor.P
open Go.RowKit Go.Proofs.YtcaogllnbpmcgaaDoorW.PrintWords Go.Proofs.YtcaogllnbpmcgaaDoorW.PrintLast Go.Proofs.YtcaogllnbpmcgaaDoorW.PrintMore
attribute [local go_sem] max2_int min2_int max_two min_two max_three min_three max_four min_four
set_option linter.unusedVariables false
set_option linter.unusedSimpArgs false
def spec_l4Story.l0 : Nat → Int → List (S79) → Int → Int → Option (Int)
 | 0, _, _, _, _ => none
 | k + 1, x0, x1, x5, x6 => if x6 < (x1.length : Int) then (if 0 ≤ x6 then ((spec_l4Table.f k x0 ((rd_T79 x1 x6).f0) ((rd_T79 x1 x6).f1)).bind fun t199 => (spec_l4Story.l0 k x0 x1 (Go.bits .and .i64 x5 t199) (wrap64 (x6 + 1)))) else (none)) else (some x5)
def spec_l4Story.f (k : Nat) (a0 : Int) (l1 : List (S79)) : Option (Int) := if 0 ≤ a0 then (spec_l4Story.l0 k a0 l1 (wrap64 ((shl .i64 1 (shl .u64 1 a0)) - 1)) 0) else (none)
set_option maxHeartbeats 8000000 in
set_option maxRecDepth 100000 in
theorem spec_l4Story.calls (k : Nat) (a0 : Int) (A1 : Option Addr) (c1 : Nat) (l1 : List (S79)) (r : Int) (w : World) (hr1 : Kd.C k79 w A1 l1.length l1) (hc1 : l1.length ≤ c1) (h : spec_l4Story.f k a0 l1 = some r) :
  Calls Tryd.prog 89 #[.int .i64 a0, .slice A1 l1.length c1] w fun e w' => e = .returned (.int .i64 r) ∧ Below w.heap.size w w' := by
 have hu79 := Tryd.underlying79
 have HR1 := mk_ hr1
 have HC1 := mk_ hc1
 clear hr1 hc1
 have HB := mk_ (Below.refl w.heap.size w)
 have H : (if 0 ≤ a0 then (spec_l4Story.l0 k a0 l1 (wrap64 ((shl .i64 1 (shl .u64 1 a0)) - 1)) 0) else (none)) = some r := h
 clear h
 revert H; refine g_ (et_ fun c3b0 c3b1 H => ?_)
 obtain ⟨ji4, hji4⟩ : ∃ j_ : Int, (shl .u64 1 a0) = j_ := ⟨_, rfl⟩
 first | rw [hji4] at H | simp only [hji4] at H
 have hji4n : 0 ≤ ji4 := by rw [← hji4]; unfold shl; generalize (1 : Int) * 2 ^ min a0.toNat (IntKind.bits .u64) = q_; simp [IntKind.wrap, IntKind.bits, IntKind.signed]; omega
 have hji4e := eq_true hji4n
 have hji4f : decide (ji4 < 0) = false := decide_eq_false (Int.not_lt.mpr hji4n)
 clear hji4n
 have hji4_ : (IntKind.u64.wrap (1 * 2 ^ min a0.toNat 64)) = ji4 := hji4
 have hji4z : a0 ≤ 64 → (IntKind.u64.wrap (1 * 2 ^ a0.toNat)) = ji4 := shl_small hji4
 have hji4u : (IntKind.u64.wrap (2 ^ min a0.toNat 64)) = ji4 := by have h_ := hji4_; rw [Int.one_mul] at h_; exact h_
 have hji4v : a0 ≤ 64 → (IntKind.u64.wrap (2 ^ a0.toNat)) = ji4 := fun hle_ => by have h_ := hji4z hle_; rw [Int.one_mul] at h_; exact h_
 obtain ⟨ji5, hji5⟩ : ∃ j_ : Int, (shl .i64 1 (ji4)) = j_ := ⟨_, rfl⟩
 first | rw [hji5] at H | simp only [hji5] at H
 have hji5_ : (IntKind.i64.wrap (1 * 2 ^ min (ji4).toNat 64)) = ji5 := hji5
 have hji5z : (ji4) ≤ 64 → (IntKind.i64.wrap (1 * 2 ^ (ji4).toNat)) = ji5 := shl_small hji5
 have hji5u : (IntKind.i64.wrap (2 ^ min (ji4).toNat 64)) = ji5 := by have h_ := hji5_; rw [Int.one_mul] at h_; exact h_
 have hji5v : (ji4) ≤ 64 → (IntKind.i64.wrap (2 ^ (ji4).toNat)) = ji5 := fun hle_ => by have h_ := hji5z hle_; rw [Int.one_mul] at h_; exact h_
 have hji5y : (wrap64 (1 * 2 ^ min (ji4).toNat 64)) = ji5 := (i64_w _).symm.trans hji5_
 have hji5x : (ji4) ≤ 64 → (wrap64 (1 * 2 ^ (ji4).toNat)) = ji5 := fun h_ => (i64_w _).symm.trans (hji5z h_)
 have H' := mk_ H
 clear H
 go_enter Tryd.func89, Tryd.ntmps89
 go_wp2
 go_loopg [5, 6] k (fun kq v5 v6 w' => ∃ (x5_1 : Int) (x6_1 : Int), v5 = .int .i64 x5_1 ∧ v6 = .int .i64 x6_1 ∧ Aside0 (spec_l4Story.l0 kq a0 l1 x5_1 x6_1 = some r) ∧ Aside0 (kq ≤ k) ∧ Aside0 (Below w.heap.size w w'))
 case atStart => exact ⟨(wrap64 ((ji5) - 1)), (0), (by first | rfl | (simp; done) | (simp only [← hji5] <;> (first | rfl | simp)) | (simp [*]; done)), sm_, H', ⟨Nat.le_refl _⟩, ⟨below_at HB.out⟩⟩
 clear H'
 try clear c1
 try clear p2
 try clear c3
 try clear c3b0
 try clear c3b1
 obtain ⟨x5_1, x6_1, rfl, rfl, HA, HK1, HB⟩ := hrel
 cases gk with
 | zero => exact absurd HA.out (by simp [spec_l4Story.l0])
 | succ k1 =>
  have H := HA.out
  clear HA
  simp only [spec_l4Story.l0] at H
  revert H; refine ti_ (df_ fun c6b0 H => ?_) (dt_ fun c6b0 H => ?_)
  ·obtain rfl := Option.some.inj H
   go_wp2
   go_ret
   exact ⟨by first | rfl | (simp [errW_none, errW_some] <;> rfl) | (simp only [← hji4, ← hji5]; first | rfl | (simp [errW_none, errW_some] <;> rfl)) | (simp [*, errW_none, errW_some] <;> rfl), below_at HB.out⟩
  revert H; refine g_ (dt_ fun c7b0 => bd_ fun t199 A8 H => ?_)
  try dsimp only at H
  have H' := mk_ H
  clear H
  have p198 : 0 ≤ (x6_1 : Int) := oa_
  have q198 : x6_1 < (l1.length : Int) := oa_
  obtain ⟨ad198, A198_1, c198_1, e198, hx198_0, hx198_1, hl198_1, hi198_1⟩ := at_T79 HR1.out x6_1 p198 q198
  cases e198
  replace hx198_0 := cel HB.out hx198_0
  replace hx198_1 := cel HB.out hx198_1
  have HR198_1 := mk_ hi198_1
  have HC198_1 := mk_ hl198_1
  clear hi198_1 hl198_1
  replace p198 := eq_true p198
  replace q198 := eq_true q198
  go_wp2_with (first | (refine gc_ 93 (some 23) Tryd.func93 #[.int .i64 a0, .agg #[.int .i64 ((rd_T79 l1 x6_1).f0), .slice A198_1 ((rd_T79 l1 x6_1).f1).length c198_1]] ?_; (with_reducible refine (spec_l4Table.calls k1 a0 ((rd_T79 l1 x6_1).f0) _ _ ((rd_T79 l1 x6_1).f1) t199 _ ?side1 ?side2 A8.out).mono ?_); (case side1 => exact Kd.C_below (Kd.C_below HR198_1.out HB.out) lt_); (case side2 => exact HC198_1.out); rintro e w9 ⟨rfl, hb⟩; refine ⟨_, rfl, ?_⟩; replace HB := mk_ (below_step (below_at HB.out) hb); (try clear hb)))
  go_roundg k1
  case measure => have := HK1.out; omega
  case rel => exact ⟨(Go.bits .and .i64 x5_1 t199), (wrap64 (x6_1 + 1)), sm_, sm_, H', ⟨by have := HK1.out; omega⟩, ⟨below_at HB.out⟩⟩
def spec_StoryTable.f (k : Nat) (a0 : Int) (l1 : List (S79)) : Option (Int) := (spec_StoryOk.f k a0 l1).bind fun t200 => (if t200 = true then ((spec_l4Story.f k a0 l1).bind fun t201 => (some t201)) else (some (-1)))
set_option maxHeartbeats 8000000 in
set_option maxRecDepth 100000 in
theorem spec_StoryTable.calls (k : Nat) (a0 : Int) (A1 : Option Addr) (c1 : Nat) (l1 : List (S79)) (r : Int) (w : World) (hr1 : Kd.C k79 w A1 l1.length l1) (hc1 : l1.length ≤ c1) (h : spec_StoryTable.f k a0 l1 = some r) :
  Calls Tryd.prog 76 #[.int .i64 a0, .slice A1 l1.length c1] w fun e w' => e = .returned (.int .i64 r) ∧ Below w.heap.size w w' := by
 have HR1 := mk_ hr1
 have HC1 := mk_ hc1
 clear hr1 hc1
 have HB := mk_ (Below.refl w.heap.size w)
 unfold spec_StoryTable.f at h
 have H := h
 clear h
 revert H; refine bd_ fun t200 A3 H => ?_
 try dsimp only at H
 revert H; refine bi_ ?_ ?_ <;> rintro rfl H
 ·obtain rfl := Option.some.inj H
  go_enter Tryd.func76, Tryd.ntmps76
  go_wp2_with (first | (refine gc_ 57 (some 7) Tryd.func57 #[.int .i64 a0, .slice A1 l1.length c1] ?_; (with_reducible refine (spec_StoryOk.calls k a0 _ _ l1 false _ ?side1 ?side2 A3.out).mono ?_); (case side1 => exact Kd.C_below HR1.out lt_); (case side2 => exact HC1.out); rintro e w8 ⟨rfl, hb⟩; refine ⟨_, rfl, ?_⟩; replace HB := mk_ (below_step (below_at HB.out) hb); (try clear hb)))
  go_ret
  exact ⟨er_, below_at HB.out⟩
 replace H := Option.bind_eq_some_iff.mp H
 obtain ⟨t201, A50, H⟩ := H
 replace H : (some t201) = some r := H
 have A5 := mk_ A50
 clear A50
 obtain rfl := Option.some.inj H
 go_enter Tryd.func76, Tryd.ntmps76
 go_wp2_with (first | (refine gc_ 57 (some 7) Tryd.func57 #[.int .i64 a0, .slice A1 l1.length c1] ?_; (with_reducible refine (spec_StoryOk.calls k a0 _ _ l1 true _ ?side1 ?side2 A3.out).mono ?_); (case side1 => exact Kd.C_below HR1.out lt_); (case side2 => exact HC1.out); rintro e w6 ⟨rfl, hb⟩; refine ⟨_, rfl, ?_⟩; replace HB := mk_ (below_step (below_at HB.out) hb); (try clear hb)) | (refine gc_ 89 (some 11) Tryd.func89 #[.int .i64 a0, .slice A1 l1.length c1] ?_; (with_reducible refine (spec_l4Story.calls k a0 _ _ l1 t201 _ ?side1 ?side2 A5.out).mono ?_); (case side1 => exact Kd.C_below (Kd.C_below HR1.out HB.out) lt_); (case side2 => exact HC1.out); rintro e w7 ⟨rfl, hb⟩; refine ⟨_, rfl, ?_⟩; replace HB := mk_ (below_step (below_at HB.out) hb); (try clear hb)))
 go_ret
 exact ⟨er_, below_at HB.out⟩
def spec_l20Proved.j0 : Nat → Int → List (S79) → List (S82) → List Int → Bool → List Int → Int → Option (Int × (List (S79)) × (List (S82)) × Int)
 | 0, _, _, _, _, _, _, _ => none
 | k + 1, x5, x6, x7, x8, x30, x1000, x1001 => if x30 = true then ((spec_l20Rd_pick.f k x1000 x1001 x5).bind fun bt217 => ((some (([(⟨0, bt217.1⟩ : S82)] : List (S82)) : List (S82))).bind fun y219 => (if 0 < (x8.length : Int) then (if 0 ≤ bt217.1 then (if (Int.tmod (shr .i64 (rd x8 0) bt217.1) 2) = 0 then (if y219.length < 8796093022208 then (some (x5, x6, (y219 ++ [(⟨2, 0⟩ : S82)]), bt217.2)) else (none)) else (some (x5, x6, y219, bt217.2))) else (none)) else (none)))) else (some (x5, x6, x7, x1001))
def spec_l20Proved.f (k : Nat) (s0_0 : List Int) (s0_1 : Int) : Option (Int × (List (S79)) × (List (S82)) × Int) := (spec_l20Story.f k s0_0 s0_1 14).bind fun bt202 => ((spec_l20Term.f k s0_0 bt202.2.2 bt202.1 14).bind fun bt207 => ((spec_StoryTable.f k bt202.1 bt202.2.1).bind fun t211 => ((spec_WorldsIn.f k bt202.1 t211).bind fun t212 => (if (t212.length : Int) > 0 then ((spec_l20Rd_pick.f k s0_0 bt207.2 2).bind fun bt215 => (spec_l20Proved.j0 k bt202.1 bt202.2.1 bt207.1 t212 (bt215.1 == 0) s0_0 bt215.2)) else (spec_l20Proved.j0 k bt202.1 bt202.2.1 bt207.1 t212 false s0_0 bt207.2)))))
set_option maxHeartbeats 8000000 in
set_option maxRecDepth 100000 in
theorem spec_l20Proved.calls (k : Nat) (g : Nat) (s0_0 : List Int) (s0_1 : Int) (r1 : Int) (r2 : List (S79)) (r3 : List (S82)) (r4 : Int) (w0 w : World) (hI : IsS99 w0 w g s0_0 s0_1) (hB : Below w0.heap.size w0 w) (h : spec_l20Proved.f k s0_0 s0_1 = some (r1, r2, r3, r4)) :
  Calls Tryd.prog 53 #[.pointer (some ⟨g, 0, none⟩)] w fun e w' => ∃ v1_ v2_ : Value, e = .returned (.tuple #[.int .i64 r1, v1_, v2_]) ∧ Kd.S k79 79 w' w.heap.size (fun k_ => some k_ ≠ (v2_ : Value).ownBlock) v1_ r2 ∧ Kd.R k82 82 w' w.heap.size (fun _ => True) v2_ r3 ∧ IsS99 w0 w' g s0_0 r4 ∧ Below w0.heap.size w0 w' ∧ KeepBut w w' g none := by
 have hu82 := Tryd.underlying82
 have HI0 := mk_ hI
 have HK := mk_ (KeepBut.refl w g none)
 have HL := mk_ hB.size
 clear hI
 have HW0 := mk_ hB.size
 have HB := mk_ hB
 clear hB
 unfold spec_l20Proved.f at h
 have H := h
 clear h
 replace H := bm_ H; obtain ⟨⟨t202, t203, t206⟩, A2, H⟩ := H
 try dsimp only at H
 replace H := bm_ H; obtain ⟨⟨t207, t210⟩, A3, H⟩ := H
 try dsimp only at H
 revert H; refine bd_ fun t211 A4 H => ?_
 try dsimp only at H
 revert H; refine bd_ fun t212 A5 H => ?_
 try dsimp only at H
 have HC6 := mk_ H
 clear H
 go_enter Tryd.func53, Tryd.ntmps53
 go_upto_region 4 with (first | (refine gc_ 73 (some 12) Tryd.func73 #[.pointer (some ⟨g, 0, none⟩), .int .i64 14] ?_; (with_reducible refine (spec_l20Story.calls k g s0_0 s0_1 14 t202 t203 t206 w0 _ ?side1 ?side2 A2.out).mono ?_); (case side1 => exact IsS99.below HI0.out lt_); (case side2 => exact below_at HB.out); rintro e w7 ⟨v204, rfl, ho0, hi, hb, hk⟩; refine ⟨_, rfl, ?_⟩; have HO205 := mk_ (Kd.S_lower ho0 (keep_size (w := w) (g := g) (row := none) (keep_at HK.out))); replace HK := mk_ (KeepBut.trans (keep_at HK.out) hk (.inl rfl)); replace HB := mk_ (hb); replace HI0 := mk_ (hi); (try clear hb); (try clear ho0)) | (refine gc_ 74 (some 17) Tryd.func74 #[.pointer (some ⟨g, 0, none⟩), .int .i64 t202, .int .i64 14] ?_; (with_reducible refine (spec_l20Term.calls k g s0_0 t206 t202 14 t207 t210 w0 _ ?side1 ?side2 A3.out).mono ?_); (case side1 => exact IsS99.below HI0.out lt_); (case side2 => exact below_at HB.out); rintro e w8 ⟨v208, rfl, ho0, hi, hb, hk⟩; refine ⟨_, rfl, ?_⟩; replace HO205 := mk_ (Kd.S_mono (Kd.S_told (Kd.S_oldK (IsS99.apartS (show IsS99 w0 _ g s0_0 t206 from IsS99.below HI0.out lt_) (Kd.S_below HO205.out lt_) (by decide)) hk) (Kd.R_base ho0)) (fun _ h_ => h_.1)); have HO209 := mk_ (Kd.R_lower ho0 (keep_size (w := w) (g := g) (row := none) (keep_at HK.out))); replace HK := mk_ (KeepBut.trans (keep_at HK.out) hk (.inl rfl)); replace HB := mk_ (hb); replace HI0 := mk_ (hi); (try clear hb); (try clear ho0); obtain ⟨Ao9, co9, eo9⟩ := Kd.S_slice HO205.out; subst eo9) | (refine gc_ 76 (some 21) Tryd.func76 #[.int .i64 t202, .slice Ao9 t203.length co9] ?_; (with_reducible refine (spec_StoryTable.calls k t202 _ _ t203 t211 _ ?side1 ?side2 A4.out).mono ?_); (case side1 => exact Kd.C_below (Kd.S_reads' HO205.out).2.2 lt_); (case side2 => exact (Kd.S_reads' HO205.out).2.1); rintro e w10 ⟨rfl, hb⟩; refine ⟨_, rfl, ?_⟩; replace HO205 := mk_ (Kd.S_below (Kd.S_below HO205.out lt_) hb); replace HO209 := mk_ (Kd.R_below (Kd.R_below HO209.out lt_) hb); replace HI0 := mk_ (IsS99.below (IsS99.below HI0.out lt_) hb); replace HK := mk_ (KeepBut.trans (keep_at HK.out) (KeepBut.of_below hb g none) (.inl rfl)); replace HB := mk_ (below_step (below_at HB.out) hb); (try clear hb)) | (refine gc_ 75 (some 22) Tryd.func75 #[.int .i64 t202, .int .i64 t211] ?_; (with_reducible refine (spec_WorldsIn.calls k t202 t211 t212 _ A5.out).mono ?_); rintro e w11 ⟨v213, rfl, ho0, hb⟩; refine ⟨_, rfl, ?_⟩; replace HO205 := mk_ (Kd.S_below (Kd.S_below HO205.out lt_) hb); replace HO209 := mk_ (Kd.R_below (Kd.R_below HO209.out lt_) hb); have HO214 := mk_ (Kd.R_lower ho0 (keep_size (w := w) (g := g) (row := none) (keep_at HK.out))); replace HI0 := mk_ (IsS99.below (IsS99.below HI0.out lt_) hb); replace HK := mk_ (KeepBut.trans (keep_at HK.out) (KeepBut.of_below hb g none) (.inl rfl)); replace HB := mk_ (below_step (below_at HB.out) hb); (try clear hb); (try clear ho0)))
 (try simp only [Act.put, z0_, z1_, z2_])
 go_cut [30] (fun v30 wc => ∃ (kq : Nat) (x30_5 : Bool) (x1001_5 : Int), v30 = .bool x30_5 ∧ Aside0 (spec_l20Proved.j0 kq t202 t203 t207 t212 x30_5 s0_0 x1001_5 = some (r1, r2, r3, r4)) ∧ Aside0 (kq ≤ k) ∧ Aside0 (Kd.S k79 79 wc w.heap.size (fun k_ => some k_ ≠ (v208 : Value).ownBlock) (.slice Ao9 t203.length co9) t203) ∧ Aside0 (Kd.R k82 82 wc w.heap.size (fun _ => True) v208 t207) ∧ Aside0 (Kd.R (Kd.int .i64) 3 wc w.heap.size (fun _ => True) v213 t212) ∧ Aside0 (IsS99 w0 wc g s0_0 x1001_5) ∧ Aside0 (KeepBut w wc g none) ∧ Aside0 (Below w0.heap.size w0 wc))
 case first =>
  have H := HC6.out
  clear HC6
  revert H; refine ti_ (fun c12 H => ?_) fun c12 H => ?_
  ·have c12b0 : decide (0 < (t212.length : Int)) = false := decide_eq_false c12
   have c12b1 : decide (0 < t212.length) = false := decide_eq_false (by omega)
   clear c12
   (first | rw [c12b0] | (simp only [i64_w, i32_w]; rw [c12b0]) | skip)
   have H' := mk_ H
   clear H
   obtain ⟨Ao16, co16, eo16⟩ := Kd.R_slice HO214.out
   subst eo16
   go_wp2
   go_meet
   case rel => exact ⟨_, (false), (t210), sm_, H', ⟨by first | omega | exact Nat.le_refl _⟩, ⟨Kd.S_below (Kd.S_mono HO205.out (fun _ hk => hk.2)) lt_⟩, ⟨Kd.R_below HO209.out lt_⟩, ⟨Kd.R_below HO214.out lt_⟩, ⟨IsS99.below HI0.out lt_⟩, ⟨keep_at HK.out⟩, ⟨below_at HB.out⟩⟩
  have c12b0 : decide (0 < (t212.length : Int)) = true := decide_eq_true c12
  have c12b1 : decide (0 < t212.length) = true := decide_eq_true (by omega)
  clear c12
  (first | rw [c12b0] | (simp only [i64_w, i32_w]; rw [c12b0]) | skip)
  replace H := bm_ H; obtain ⟨⟨t215, t216⟩, A13, H⟩ := H
  try dsimp only at H
  have H' := mk_ H
  clear H
  obtain ⟨Ao14, co14, eo14⟩ := Kd.R_slice HO214.out
  subst eo14
  go_wp2_with (first | (go_at_call 52; (with_reducible refine (spec_l20Rd_pick.calls k g s0_0 t210 2 t215 t216 w0 _ ?side1 ?side2 A13.out).mono ?_); (case side1 => exact IsS99.below HI0.out lt_); (case side2 => exact below_at HB.out); rintro e w15 ⟨rfl, hi, hb, hk⟩; replace HO205 := mk_ (Kd.S_mono (Kd.S_keep (IsS99.apartS (show IsS99 w0 _ g s0_0 t210 from IsS99.below HI0.out lt_) (Kd.S_below HO205.out lt_) (by decide)) hk (fun _ h => h.2)) (fun _ h => h.1)); replace HO209 := mk_ (Kd.R_mono (Kd.R_keep (IsS99.apart (show IsS99 w0 _ g s0_0 t210 from IsS99.below HI0.out lt_) (Kd.R_below HO209.out lt_) (by decide)) hk (fun _ h => h.2)) (fun _ h => h.1)); replace HO214 := mk_ (Kd.R_mono (Kd.R_keep (IsS99.apart (show IsS99 w0 _ g s0_0 t210 from IsS99.below HI0.out lt_) (Kd.R_below HO214.out lt_) (by decide)) hk (fun _ h => h.2)) (fun _ h => h.1)); replace HK := mk_ (KeepBut.trans (keep_at HK.out) hk (.inl rfl)); replace HB := mk_ (hb); replace HI0 := mk_ (hi); (try clear hb)))
  go_meet
  case rel => exact ⟨_, ((t215 == 0)), (t216), sm_, H', ⟨by first | omega | exact Nat.le_refl _⟩, ⟨Kd.S_below (Kd.S_mono HO205.out (fun _ hk => hk.2)) lt_⟩, ⟨Kd.R_below HO209.out lt_⟩, ⟨Kd.R_below HO214.out lt_⟩, ⟨IsS99.below HI0.out lt_⟩, ⟨keep_at HK.out⟩, ⟨below_at HB.out⟩⟩
 clear HC6
 try clear c1
 try clear p2
 try clear c5
 try clear c7
 try clear c12
 try clear c12b0
 try clear c12b1
 obtain ⟨kq, x30_5, x1001_5, rfl, HA, HJ5, HO_6, HO_7, HO_8, HI0, HK, HB⟩ := hcut
 cases kq with
 | zero => exact absurd HA.out (by simp [spec_l20Proved.j0])
 | succ kj5 =>
  have H := HA.out
  clear HA
  simp only [spec_l20Proved.j0] at H
  revert H; refine bi_ ?_ ?_ <;> rintro rfl H
  ·simp only [Option.some.injEq, Prod.mk.injEq] at H
   obtain ⟨rfl, rfl, rfl, rfl⟩ := H
   go_wp2
   go_ret3
   exact ⟨_, _, er_, by (with_reducible repeat (first | apply Kd.S_alloc | apply Kd.S_drewN | apply Kd.S_drew)); exact HO_6.out, rl_ HO_7.out, IsS99.below HI0.out lt_, below_at HB.out, keep_at HK.out⟩
  replace H := bm_ H; obtain ⟨⟨t217, t218⟩, A18, H⟩ := H
  try dsimp only at H
  obtain ⟨y219, hy219⟩ : ∃ y_ : List (S82), y_ = (([(⟨0, t217⟩ : S82)] : List (S82))) := ⟨_, rfl⟩
  first | (replace H := bn_ hy219 H; try dsimp only at H) | rw [← hy219] at H
  have Ny219 := mk_ hy219
  clear hy219
  revert H; refine g_ (fun c19 H => ?_)
  have c19b0 : decide (0 < (t212.length : Int)) = true := decide_eq_true c19
  have c19b1 : decide (0 < t212.length) = true := decide_eq_true (by omega)
  clear c19
  revert H; refine g_ (et_ fun c20b0 c20b1 H => ?_)
  obtain ⟨ji21, hji21⟩ : ∃ j_ : Int, (shr .i64 (rd t212 0) t217) = j_ := ⟨_, rfl⟩
  first | rw [hji21] at H | simp only [hji21] at H
  (try rw [hji21] at A18)
  have hji21_ : ((rd t212 0) / 2 ^ min t217.toNat 64) = ji21 := hji21
  have hji21z : t217 ≤ 64 → ((rd t212 0) / 2 ^ t217.toNat) = ji21 := shr_small hji21
  revert H; refine ti_ (qfk_ fun c22 c22b0 c22b1 H => ?_) (qt_ fun c22b0 c22b1 H => ?_)
  ·simp only [Option.some.injEq, Prod.mk.injEq] at H
   obtain ⟨rfl, rfl, rfl, rfl⟩ := H
   go_wp2_with (first | (refine gc_ 52 (some 33) Tryd.func52 #[.pointer (some ⟨g, 0, none⟩), .int .i64 t202] ?_; (with_reducible refine (spec_l20Rd_pick.calls kj5 g s0_0 x1001_5 t202 t217 t218 w0 _ ?side1 ?side2 A18.out).mono ?_); (case side1 => exact IsS99.below HI0.out lt_); (case side2 => exact below_at HB.out); rintro e w29 ⟨rfl, hi, hb, hk⟩; refine ⟨_, rfl, ?_⟩; replace HO_6 := mk_ (Kd.S_mono (Kd.S_keep (IsS99.apartS (show IsS99 w0 _ g s0_0 x1001_5 from IsS99.below HI0.out lt_) (Kd.S_below HO_6.out lt_) (by decide)) hk (fun _ h => h.2)) (fun _ h => h.1)); replace HO_7 := mk_ (Kd.R_mono (Kd.R_keep (IsS99.apart (show IsS99 w0 _ g s0_0 x1001_5 from IsS99.below HI0.out lt_) (Kd.R_below HO_7.out lt_) (by decide)) hk (fun _ h => h.2)) (fun _ h => h.1)); replace HO_8 := mk_ (Kd.R_mono (Kd.R_keep (IsS99.apart (show IsS99 w0 _ g s0_0 x1001_5 from IsS99.below HI0.out lt_) (Kd.R_below HO_8.out lt_) (by decide)) hk (fun _ h => h.2)) (fun _ h => h.1)); replace HK := mk_ (KeepBut.trans (keep_at HK.out) hk (.inl rfl)); replace HB := mk_ (hb); replace HI0 := mk_ (hi); (try clear hb)) | ((with_reducible refine gate_dst (N := 36) rfl ?_); refine Kd.R_lit k82 _ 82 ?hg (N := 36) ?hd (xs := ([(⟨0, t217⟩ : S82)] : List (S82))) (inner := [.int .i64 0, .int .i64 t217]) (ok := fun _ => True) (okp := fun _ => True) ?hr ?hp (fun _ hk => hk) trivial (Below.refl _ _) (Nat.le_refl _) (by simp) ?_; (case hd => rfl); (case hg => rfl); (case hr => first | (go_simp; done) | (go_simp; rfl)); (case hp => exact (Reps.c2 (show Kd.M k82 _ _ _ (⟨0, t217⟩ : S82) [.int .i64 0, .int .i64 t217] from (k82_mkM _ _ _ (⟨0, t217⟩ : S82) )) (Reps.none _ _))); intro v220 w30 ho31 hb hg_ hnew_; clear hg_ hnew_; (first | rw [← Ny219.out] at ho31 | (simp only [Int.reduceToNat] at ho31; rw [← Ny219.out] at ho31)); replace HO_6 := mk_ (Kd.S_elder' (Kd.S_below HO_6.out lt_) (Kd.R_base ho31) hb); replace HO_8 := mk_ (Kd.R_below (Kd.R_below HO_8.out lt_) hb); have HO221 := mk_ (Kd.R_lower (Kd.R_new' ho31 (Kd.R_lt (Kd.R_below HO_7.out lt_))) (keep_size (w := w) (g := g) (row := none) (keep_at HK.out))); replace HI0 := mk_ (IsS99.below (IsS99.below HI0.out lt_) hb); replace HK := mk_ (KeepBut.trans (keep_at HK.out) (KeepBut.of_below hb g none) (.inl rfl)); replace HB := mk_ (below_step (below_at HB.out) hb); (try clear HO_7); clear hb ho31; obtain ⟨Ao32, co32, eo32⟩ := Kd.R_slice HO_8.out; subst eo32; have p222 : 0 ≤ (0 : Int) := (by omega); have q222 : 0 < (t212.length : Int) := oa_; obtain ⟨ad222, e222, hx222_0⟩ := Kd.at_int (Kd.R_reads' HO_8.out).2.2 0 p222 q222; cases e222; have qi222 : (0 < t212.length) = True := eq_true (by omega); (try rw [show ((0 : Int)).toNat = 0 from rfl] at hx222_0); (try rw [Addr.add_zero'] at hx222_0); replace p222 := eq_true p222; replace q222 := eq_true q222))
   go_ret3
   exact ⟨_, _, by first | rfl | (simp [errW_none, errW_some] <;> rfl) | (simp only [← hji21]; first | rfl | (simp [errW_none, errW_some] <;> rfl)) | (simp [*, errW_none, errW_some] <;> rfl), by (with_reducible repeat (first | apply Kd.S_alloc | apply Kd.S_drewN | apply Kd.S_drew)); exact Kd.S_mono HO_6.out (fun _ hk => hk.2), by (with_reducible repeat (first | apply Kd.R_alloc | apply Kd.R_drewN | apply Kd.R_drew)); exact Kd.R_mono HO221.out (fun _ hk => trivial), IsS99.below HI0.out lt_, below_at HB.out, keep_at HK.out⟩
  revert H; refine g_ (mt_ fun LMc23 H => ?_)
  obtain ⟨y223, hy223⟩ : ∃ y_ : List (S82), y_ = (y219 ++ [(⟨2, 0⟩ : S82)]) := ⟨_, rfl⟩
  first | (replace H := bn_ hy223 H; try dsimp only at H) | rw [← hy223] at H
  have Ny223 := mk_ hy223
  clear hy223
  simp only [Option.some.injEq, Prod.mk.injEq] at H
  obtain ⟨rfl, rfl, rfl, rfl⟩ := H
  go_wp2_with (first | (refine gc_ 52 (some 33) Tryd.func52 #[.pointer (some ⟨g, 0, none⟩), .int .i64 t202] ?_; (with_reducible refine (spec_l20Rd_pick.calls kj5 g s0_0 x1001_5 t202 t217 t218 w0 _ ?side1 ?side2 A18.out).mono ?_); (case side1 => exact IsS99.below HI0.out lt_); (case side2 => exact below_at HB.out); rintro e w24 ⟨rfl, hi, hb, hk⟩; refine ⟨_, rfl, ?_⟩; replace HO_6 := mk_ (Kd.S_mono (Kd.S_keep (IsS99.apartS (show IsS99 w0 _ g s0_0 x1001_5 from IsS99.below HI0.out lt_) (Kd.S_below HO_6.out lt_) (by decide)) hk (fun _ h => h.2)) (fun _ h => h.1)); replace HO_7 := mk_ (Kd.R_mono (Kd.R_keep (IsS99.apart (show IsS99 w0 _ g s0_0 x1001_5 from IsS99.below HI0.out lt_) (Kd.R_below HO_7.out lt_) (by decide)) hk (fun _ h => h.2)) (fun _ h => h.1)); replace HO_8 := mk_ (Kd.R_mono (Kd.R_keep (IsS99.apart (show IsS99 w0 _ g s0_0 x1001_5 from IsS99.below HI0.out lt_) (Kd.R_below HO_8.out lt_) (by decide)) hk (fun _ h => h.2)) (fun _ h => h.1)); replace HK := mk_ (KeepBut.trans (keep_at HK.out) hk (.inl rfl)); replace HB := mk_ (hb); replace HI0 := mk_ (hi); (try clear hb)) | ((with_reducible refine gate_dst (N := 36) rfl ?_); refine Kd.R_lit k82 _ 82 ?hg (N := 36) ?hd (xs := ([(⟨0, t217⟩ : S82)] : List (S82))) (inner := [.int .i64 0, .int .i64 t217]) (ok := fun _ => True) (okp := fun _ => True) ?hr ?hp (fun _ hk => hk) trivial (Below.refl _ _) (Nat.le_refl _) (by simp) ?_; (case hd => rfl); (case hg => rfl); (case hr => first | (go_simp; done) | (go_simp; rfl)); (case hp => exact (Reps.c2 (show Kd.M k82 _ _ _ (⟨0, t217⟩ : S82) [.int .i64 0, .int .i64 t217] from (k82_mkM _ _ _ (⟨0, t217⟩ : S82) )) (Reps.none _ _))); intro v220 w25 ho26 hb hg_ hnew_; clear hg_ hnew_; (first | rw [← Ny219.out] at ho26 | (simp only [Int.reduceToNat] at ho26; rw [← Ny219.out] at ho26)); replace HO_6 := mk_ (Kd.S_elder' (Kd.S_below HO_6.out lt_) (Kd.R_base ho26) hb); replace HO_8 := mk_ (Kd.R_below (Kd.R_below HO_8.out lt_) hb); have HO221 := mk_ (Kd.R_lower (Kd.R_new' ho26 (Kd.R_lt (Kd.R_below HO_7.out lt_))) (keep_size (w := w) (g := g) (row := none) (keep_at HK.out))); replace HO_7 := mk_ (Kd.R_elder' (Kd.R_below HO_7.out lt_) (Kd.R_base ho26) hb); replace HI0 := mk_ (IsS99.below (IsS99.below HI0.out lt_) hb); replace HK := mk_ (KeepBut.trans (keep_at HK.out) (KeepBut.of_below hb g none) (.inl rfl)); replace HB := mk_ (below_step (below_at HB.out) hb); clear hb ho26; obtain ⟨Ao27, co27, eo27⟩ := Kd.R_slice HO_8.out; subst eo27; have p222 : 0 ≤ (0 : Int) := (by omega); have q222 : 0 < (t212.length : Int) := oa_; obtain ⟨ad222, e222, hx222_0⟩ := Kd.at_int (Kd.R_reads' HO_8.out).2.2 0 p222 q222; cases e222; have qi222 : (0 < t212.length) = True := eq_true (by omega); (try rw [show ((0 : Int)).toNat = 0 from rfl] at hx222_0); (try rw [Addr.add_zero'] at hx222_0); replace p222 := eq_true p222; replace q222 := eq_true q222) | ((with_reducible refine gate_builtin (b := .append) (xs := #[.tmp 44, .tmp 46]) rfl ?_); at_builtin; refine Kd.R_append k82 w.heap.size rfl (.tmp 44) (.tmp 46) 24 82 (.agg #[(.int .i64 0), (.int .i64 0)]) 16 rfl Tryd.underlying24 info82 rfl (by decide) (by omega) v220 y219 (⟨2, 0⟩ : S82) [.int .i64 2, .int .i64 0] (fun k_ => some k_ ≠ (v208 : Value).ownBlock) (fun _ => False) rfl rfl ?aP (fun _ hk => hk.elim) ?aF ?aO (Below.refl _ _) ?aS ?aL ?_; (case aP => exact k82_mkM _ _ _ (⟨2, 0⟩ : S82)); (case aF => exact (fun k_ hk => Kd.fresh' (Kd.R_lt (Kd.R_below HO_7.out lt_)) k_ hk)); (case aO => exact (Kd.R_below (Kd.R_mono HO221.out (fun _ hk => hk.2)) lt_)); (case aS => exact (keep_size (w := w) (g := g) (row := none) (keep_at HK.out))); (case aL => have := LMc23.out; omega); intro v224 w28 ho hb hg hat; rw [← Ny223.out] at ho; replace HO_6 := mk_ (Kd.S_after (ok := (fun k_ => some k_ ≠ (v208 : Value).ownBlock)) (Kd.S_below HO_6.out lt_) hg hat); replace HI0 := mk_ (IsS99.grown (IsS99.below HI0.out lt_) hg (IsS99.own_ne HI0.out HO221.out (by decide))); replace HB := mk_ (below_weaken (below_at HB.out) HL.out hb); replace HK := mk_ (KeepBut.trans (keep_at HK.out) (KeepBut.of_grown hg g) (Kd.R_base2 HO221.out)); have HO225 := mk_ (ho); (try clear HO_7 HO_8 HO221); clear ho hb hg hat))
  go_ret3
  exact ⟨_, _, by first | rfl | (simp [errW_none, errW_some] <;> rfl) | (simp only [← hji21]; first | rfl | (simp [errW_none, errW_some] <;> rfl)) | (simp [*, errW_none, errW_some] <;> rfl), by (with_reducible repeat (first | apply Kd.S_alloc | apply Kd.S_drewN | apply Kd.S_drew)); exact Kd.S_mono HO_6.out (fun _ hk => hk.2), by (with_reducible repeat (first | apply Kd.R_alloc | apply Kd.R_drewN | apply Kd.R_drew)); exact Kd.R_mono HO225.out (fun _ hk => trivial), IsS99.below HI0.out lt_, below_at HB.out, keep_at HK.out⟩
def spec_l11Nothing.l0 : Nat → Int → List Int → Int → Option (List Int)
 | 0, _, _, _ => none
 | k + 1, x0, x3, x4 => if x4 < x0 then (if x3.length < 17592186044416 then (spec_l11Nothing.l0 k x0 (x3 ++ [(-1)]) (wrap64 (x4 + 1))) else (none)) else (some x3)
def spec_l11Nothing.f (k : Nat) (a0 : Int) : Option (List Int) := spec_l11Nothing.l0 k a0 (([] : List Int)) 0
theorem spec_l11Nothing.mono_l : ∀ k, (∀ y0 y1 y2, LeO (spec_l11Nothing.l0 k y0 y1 y2) (spec_l11Nothing.l0 (k + 1) y0 y1 y2))
 | 0 => fun _ _ _ r h => by simp [spec_l11Nothing.l0] at h
 | k + 1 => by
  have ih0 := spec_l11Nothing.mono_l k
  ·intro y0 y1 y2
   unfold spec_l11Nothing.l0
   repeat' first
   | (with_reducible exact ih0 _ _ _)
   | (with_reducible exact LeO.refl _)
   | (with_reducible exact LeO.none _)
   | (with_reducible refine LeO.ite ?_ ?_)
   | (with_reducible refine LeO.bind ?_ (fun _ => ?_))
theorem spec_l11Nothing.mono : ∀ a0 k, LeO (spec_l11Nothing.f k a0) (spec_l11Nothing.f (k + 1) a0) := by
 intro a0 k
 have ih0 := spec_l11Nothing.mono_l k
 unfold spec_l11Nothing.f
 repeat' first
   | (with_reducible exact ih0 _ _ _)
   | (with_reducible exact LeO.refl _)
   | (with_reducible exact LeO.none _)
   | (with_reducible refine LeO.ite ?_ ?_)
   | (with_reducible refine LeO.bind ?_ (fun _ => ?_))
set_option maxHeartbeats 8000000 in
set_option maxRecDepth 100000 in
theorem spec_l11Nothing.calls (k : Nat) (a0 : Int) (r : List Int) (w : World) (h : spec_l11Nothing.f k a0 = some r) :
  Calls Tryd.prog 60 #[.int .i64 a0] w fun e w' => ∃ v0_ : Value, e = .returned (v0_) ∧ Kd.R (Kd.int .i64) 3 w' w.heap.size (fun _ => True) v0_ r ∧ Below w.heap.size w w' := by
 have HB := mk_ (Below.refl w.heap.size w)
 have H : (spec_l11Nothing.l0 k a0 (([] : List Int)) 0) = some r := h
 clear h
 obtain ⟨y226, hy226⟩ : ∃ y_ : List Int, y_ = (([] : List Int)) := ⟨_, rfl⟩
 replace H : (spec_l11Nothing.l0 k a0 y226 0) = some r := by first | (rw [hy226]; exact H) | exact H
 have Ny226 := mk_ hy226
 clear hy226
 have H' := mk_ H
 clear H
 go_enter Tryd.func60, Tryd.ntmps60
 go_wp2_with (first | ((with_reducible refine gate_dst (N := 5) rfl ?_); refine Kd.R_lit (Kd.int .i64) _ 3 ?hg (N := 5) ?hd (xs := ([] : List Int)) (inner := []) (ok := fun _ => True) (okp := fun _ => True) ?hr ?hp (fun _ hk => hk) trivial (Below.refl _ _) (Nat.le_refl _) (by simp) ?_; (case hd => rfl); (case hg => rfl); (case hr => first | (go_simp; done) | (go_simp; rfl)); (case hp => exact (Reps.none _ _)); intro v227 w2 ho3 hb hg_ hnew_; clear hg_ hnew_; (first | rw [← Ny226.out] at ho3 | (simp only [Int.reduceToNat] at ho3; rw [← Ny226.out] at ho3)); have HO228 := mk_ (Kd.R_lower ho3 (below_size (below_at HB.out))); replace HB := mk_ (below_step (below_at HB.out) hb); clear hb ho3))
 go_loopg [3, 4] k (fun kq v3 v4 w' => ∃ (x3_1 : List Int) (x4_1 : Int), v4 = .int .i64 x4_1 ∧ Aside0 (spec_l11Nothing.l0 kq a0 x3_1 x4_1 = some r) ∧ Aside0 (kq ≤ k) ∧ Aside0 (Kd.R (Kd.int .i64) 3 w' w.heap.size (fun _ => True) v3 x3_1) ∧ Aside0 (Below w.heap.size w w'))
 case atStart => exact ⟨(y226), (0), sm_, H', ⟨Nat.le_refl _⟩, ⟨Kd.R_below HO228.out lt_⟩, ⟨below_at HB.out⟩⟩
 clear H'
 try clear p2
 obtain ⟨x3_1, x4_1, rfl, HA, HK1, HO_3, HB⟩ := hrel
 cases gk with
 | zero => exact absurd HA.out (by simp [spec_l11Nothing.l0])
 | succ k1 =>
  have H := HA.out
  clear HA
  simp only [spec_l11Nothing.l0] at H
  revert H; refine ti_ (df_ fun c4b0 H => ?_) (dt_ fun c4b0 H => ?_)
  ·obtain rfl := Option.some.inj H
   go_wp2
   go_ret
   exact ⟨_, er_, rl_ HO_3.out, below_at HB.out⟩
  revert H; refine g_ (mt_ fun LMc5 H => ?_)
  obtain ⟨y229, hy229⟩ : ∃ y_ : List Int, y_ = (x3_1 ++ [(-1)]) := ⟨_, rfl⟩
  first | (replace H := bn_ hy229 H; try dsimp only at H) | rw [← hy229] at H
  have Ny229 := mk_ hy229
  clear hy229
  have H' := mk_ H
  clear H
  go_wp2_with (first | ((with_reducible refine gate_builtin (b := .append) (xs := #[.tmp 11, .tmp 12]) rfl ?_); at_builtin; refine Kd.R_append (Kd.int .i64) (w0 := w) w.heap.size rfl (.tmp 11) (.tmp 12) 103 3 (.int .i64 0) 8 rfl Tryd.underlying103 info3 rfl (by decide) (by omega) u3 x3_1 (-1) [.int .i64 (-1)] (fun _ => True) (fun _ => False) rfl rfl ?aP (fun _ hk => hk.elim) ?aF ?aO ?aB ?aS ?aL ?_; (case aP => exact rfl); (case aB => exact (below_at HB.out)); (case aF => exact (fun _ _ => trivial)); (case aO => exact (Kd.R_below HO_3.out lt_)); (case aS => exact (below_size (below_at HB.out))); (case aL => have := LMc5.out; omega); intro v230 w6 ho hb hg hat; rw [← Ny229.out] at ho; replace HB := mk_ (hb); have HO231 := mk_ (ho); (try clear HO_3); clear ho hb hg hat))
  go_roundg k1
  case measure => have := HK1.out; omega
  case rel => exact ⟨(y229), (wrap64 (x4_1 + 1)), sm_, H', ⟨by have := HK1.out; omega⟩, ⟨Kd.R_below HO231.out lt_⟩, ⟨below_at HB.out⟩⟩
mutual
def spec_l11Agree.l0 : Nat → Int → List Int → Int → Int → Option (Int)
 | 0, _, _, _, _ => none
 | k + 1, x0, x1, x5, x6 => if 0 ≤ x0 then (if x6 < (shl .i64 1 x0) then (spec_l11Agree.l1 k x0 x1 x5 x6 true 0) else (some x5)) else (none)
def spec_l11Agree.l1 : Nat → Int → List Int → Int → Int → Bool → Int → Option (Int)
 | 0, _, _, _, _, _, _ => none
 | k + 1, x0, x1, x5, x6, x7, x8 => if x8 < x0 then (if x7 = true then (if 0 ≤ x8 then (if x8 < (x1.length : Int) then (if (rd x1 x8) < 0 then (spec_l11Agree.l1 k x0 x1 x5 x6 true (wrap64 (x8 + 1))) else (spec_l11Agree.l1 k x0 x1 x5 x6 ((rd x1 x8) == (Int.tmod (shr .i64 x6 x8) 2)) (wrap64 (x8 + 1)))) else (none)) else (none)) else (spec_l11Agree.l1 k x0 x1 x5 x6 false (wrap64 (x8 + 1)))) else (if x7 = true then (if 0 ≤ x6 then (spec_l11Agree.l0 k x0 x1 (Go.bits .or .i64 x5 (shl .i64 1 x6)) (wrap64 (x6 + 1))) else (none)) else (spec_l11Agree.l0 k x0 x1 x5 (wrap64 (x6 + 1))))
end
def spec_l11Agree.f (k : Nat) (a0 : Int) (l1 : List Int) : Option (Int) := spec_l11Agree.l0 k a0 l1 0 0
theorem spec_l11Agree.mono_l : ∀ k, (∀ y0 y1 y2 y3, LeO (spec_l11Agree.l0 k y0 y1 y2 y3) (spec_l11Agree.l0 (k + 1) y0 y1 y2 y3)) ∧ (∀ y0 y1 y2 y3 y4 y5, LeO (spec_l11Agree.l1 k y0 y1 y2 y3 y4 y5) (spec_l11Agree.l1 (k + 1) y0 y1 y2 y3 y4 y5))
 | 0 => ⟨fun _ _ _ _ r h => by simp [spec_l11Agree.l0] at h, fun _ _ _ _ _ _ r h => by simp [spec_l11Agree.l1] at h⟩
 | k + 1 => by
  obtain ⟨ih0, ih1⟩ := spec_l11Agree.mono_l k
  refine ⟨?_, ?_⟩
  ·intro y0 y1 y2 y3
   unfold spec_l11Agree.l0
   repeat' first
   | (with_reducible exact ih0 _ _ _ _)
   | (with_reducible exact ih1 _ _ _ _ _ _)
   | (with_reducible exact LeO.refl _)
   | (with_reducible exact LeO.none _)
   | (with_reducible refine LeO.ite ?_ ?_)
   | (with_reducible refine LeO.bind ?_ (fun _ => ?_))
  ·intro y0 y1 y2 y3 y4 y5
   unfold spec_l11Agree.l1
   repeat' first
   | (with_reducible exact ih0 _ _ _ _)
   | (with_reducible exact ih1 _ _ _ _ _ _)
   | (with_reducible exact LeO.refl _)
   | (with_reducible exact LeO.none _)
   | (with_reducible refine LeO.ite ?_ ?_)
   | (with_reducible refine LeO.bind ?_ (fun _ => ?_))
theorem spec_l11Agree.mono : ∀ a0 a1 k, LeO (spec_l11Agree.f k a0 a1) (spec_l11Agree.f (k + 1) a0 a1) := by
 intro a0 a1 k
 obtain ⟨ih0, ih1⟩ := spec_l11Agree.mono_l k
 unfold spec_l11Agree.f
 repeat' first
   | (with_reducible exact ih0 _ _ _ _)
   | (with_reducible exact ih1 _ _ _ _ _ _)
   | (with_reducible exact LeO.refl _)
   | (with_reducible exact LeO.none _)
   | (with_reducible refine LeO.ite ?_ ?_)
   | (with_reducible refine LeO.bind ?_ (fun _ => ?_))
set_option maxHeartbeats 8000000 in
set_option maxRecDepth 100000 in
theorem spec_l11Agree.calls (k : Nat) (a0 : Int) (A1 : Option Addr) (c1 : Nat) (l1 : List Int) (r : Int) (w : World) (hr1 : Kd.C (Kd.int .i64) w A1 l1.length l1) (hc1 : l1.length ≤ c1) (h : spec_l11Agree.f k a0 l1 = some r) :
  Calls Tryd.prog 91 #[.int .i64 a0, .slice A1 l1.length c1] w fun e w' => e = .returned (.int .i64 r) ∧ Drawn0 w w' := by
 have HR1 := mk_ hr1
 have HC1 := mk_ hc1
 clear hr1 hc1
 have H : (spec_l11Agree.l0 k a0 l1 0 0) = some r := h
 clear h
 have H' := mk_ H
 clear H
 go_enter Tryd.func91, Tryd.ntmps91
 go_wp2
 repeat (go_quiet (fail); try go_wp2)
 go_loopg [5, 6] k (fun kq v5 v6 w' => ∃ (x5_1 : Int) (x6_1 : Int), v5 = .int .i64 x5_1 ∧ v6 = .int .i64 x6_1 ∧ Aside0 (spec_l11Agree.l0 kq a0 l1 x5_1 x6_1 = some r) ∧ Aside0 (kq ≤ k) ∧ Drawn0 w w')
 case atStart => exact ⟨(0), (0), sm_, sm_, H', ⟨Nat.le_refl _⟩, by repeat (first | exact Drawn0.refl _ | apply Drawn0.step)⟩
 clear H'
 try clear c1
 try clear p2
 obtain ⟨x5_1, x6_1, rfl, rfl, HA, HK1, ⟨m1, rfl⟩⟩ := hrel
 cases gk with
 | zero => exact absurd HA.out (by simp [spec_l11Agree.l0])
 | succ k1 =>
  have H := HA.out
  clear HA
  simp only [spec_l11Agree.l0] at H
  revert H; refine g_ (et_ fun c3b0 c3b1 H => ?_)
  obtain ⟨ji4, hji4⟩ : ∃ j_ : Int, (shl .i64 1 a0) = j_ := ⟨_, rfl⟩
  first | rw [hji4] at H | simp only [hji4] at H
  have hji4_ : (IntKind.i64.wrap (1 * 2 ^ min a0.toNat 64)) = ji4 := hji4
  have hji4z : a0 ≤ 64 → (IntKind.i64.wrap (1 * 2 ^ a0.toNat)) = ji4 := shl_small hji4
  have hji4u : (IntKind.i64.wrap (2 ^ min a0.toNat 64)) = ji4 := by have h_ := hji4_; rw [Int.one_mul] at h_; exact h_
  have hji4v : a0 ≤ 64 → (IntKind.i64.wrap (2 ^ a0.toNat)) = ji4 := fun hle_ => by have h_ := hji4z hle_; rw [Int.one_mul] at h_; exact h_
  have hji4y : (wrap64 (1 * 2 ^ min a0.toNat 64)) = ji4 := (i64_w _).symm.trans hji4_
  have hji4x : a0 ≤ 64 → (wrap64 (1 * 2 ^ a0.toNat)) = ji4 := fun h_ => (i64_w _).symm.trans (hji4z h_)
  revert H; refine ti_ (df_ fun c5b0 H => ?_) (dt_ fun c5b0 H => ?_)
  ·obtain rfl := Option.some.inj H
   go_wp2
   repeat (go_quiet (fail); try go_wp2)
   go_ret
   exact ⟨by first | rfl | (simp; done) | (simp only [← hji4] <;> (first | rfl | simp)) | (simp [*]; done), by repeat (first | exact Drawn0.refl _ | apply Drawn0.step)⟩
  have H' := mk_ H
  clear H
  go_wp2
  repeat (go_quiet (fail); try go_wp2)
  go_loopg [7, 8] k1 (fun kq v7 v8 w' => ∃ (x7_2 : Bool) (x8_2 : Int), v7 = .bool x7_2 ∧ v8 = .int .i64 x8_2 ∧ Aside0 (spec_l11Agree.l1 kq a0 l1 x5_1 x6_1 x7_2 x8_2 = some r) ∧ Aside0 (kq ≤ k1) ∧ Drawn0 w w')
  case atStart => exact ⟨(true), (0), sm_, sm_, H', ⟨Nat.le_refl _⟩, by repeat (first | exact Drawn0.refl _ | apply Drawn0.step)⟩
  clear H'
  try clear c1
  try clear p2
  try clear c3
  try clear c3b0
  try clear c3b1
  try clear c5
  try clear c5b0
  try clear p2
  obtain ⟨x7_2, x8_2, rfl, rfl, HA, HK2, ⟨m2, rfl⟩⟩ := hrel
  cases gk with
  | zero => exact absurd HA.out (by simp [spec_l11Agree.l1])
  | succ k2 =>
   have H := HA.out
   clear HA
   simp only [spec_l11Agree.l1] at H
   revert H; refine ti_ (df_ fun c6b0 H => ?_) (dt_ fun c6b0 H => ?_)
   ·revert H; refine bi_ ?_ ?_ <;> rintro rfl H
    ·have H' := mk_ H
     clear H
     go_wp2
     repeat (go_quiet (fail); try go_wp2)
     go_roundg k2
     case measure => have := HK1.out; have := HK2.out; omega
     case rel => exact ⟨(x5_1), (wrap64 (x6_1 + 1)), sm_, sm_, H', ⟨by have := HK1.out; have := HK2.out; omega⟩, by repeat (first | exact Drawn0.refl _ | apply Drawn0.step)⟩
    revert H; refine g_ (et_ fun c14b0 c14b1 H => ?_)
    obtain ⟨ji15, hji15⟩ : ∃ j_ : Int, (shl .i64 1 x6_1) = j_ := ⟨_, rfl⟩
    first | rw [hji15] at H | simp only [hji15] at H
    have hji15_ : (IntKind.i64.wrap (1 * 2 ^ min x6_1.toNat 64)) = ji15 := hji15
    have hji15z : x6_1 ≤ 64 → (IntKind.i64.wrap (1 * 2 ^ x6_1.toNat)) = ji15 := shl_small hji15
    have hji15u : (IntKind.i64.wrap (2 ^ min x6_1.toNat 64)) = ji15 := by have h_ := hji15_; rw [Int.one_mul] at h_; exact h_
    have hji15v : x6_1 ≤ 64 → (IntKind.i64.wrap (2 ^ x6_1.toNat)) = ji15 := fun hle_ => by have h_ := hji15z hle_; rw [Int.one_mul] at h_; exact h_
    have hji15y : (wrap64 (1 * 2 ^ min x6_1.toNat 64)) = ji15 := (i64_w _).symm.trans hji15_
    have hji15x : x6_1 ≤ 64 → (wrap64 (1 * 2 ^ x6_1.toNat)) = ji15 := fun h_ => (i64_w _).symm.trans (hji15z h_)
    have H' := mk_ H
    clear H
    go_wp2
    repeat (go_quiet (fail); try go_wp2)
    go_roundg k2
    case measure => have := HK1.out; have := HK2.out; omega
    case rel => exact ⟨(Go.bits .or .i64 x5_1 (ji15)), (wrap64 (x6_1 + 1)), (by first | rfl | (simp; done) | (simp only [← hji15] <;> (first | rfl | simp)) | (simp [*]; done)), sm_, H', ⟨by have := HK1.out; have := HK2.out; omega⟩, by repeat (first | exact Drawn0.refl _ | apply Drawn0.step)⟩
   revert H; refine bi_ ?_ ?_ <;> rintro rfl H
   ·have H' := mk_ H
    clear H
    go_wp2
    repeat (go_quiet (fail); try go_wp2)
    go_roundg k2
    case measure => have := HK1.out; have := HK2.out; omega
    case rel => exact ⟨(false), (wrap64 (x8_2 + 1)), sm_, sm_, H', ⟨by have := HK1.out; have := HK2.out; omega⟩, by repeat (first | exact Drawn0.refl _ | apply Drawn0.step)⟩
   revert H; refine g_ (dt_ fun c8b0 => g_ (dt_ fun c9b0 => it_ (dt_ fun c10b0 H => ?_) (df_ fun c10b0 H => ?_)))
   ·have H' := mk_ H
    clear H
    have p232 : 0 ≤ (x8_2 : Int) := oa_
    have q232 : x8_2 < (l1.length : Int) := oa_
    obtain ⟨ad232, e232, hx232_0⟩ := Kd.at_int HR1.out x8_2 p232 q232
    cases e232
    replace p232 := eq_true p232
    replace q232 := eq_true q232
    go_wp2
    repeat (go_quiet (fail); try go_wp2)
    go_roundg k2
    case measure => have := HK1.out; have := HK2.out; omega
    case rel => exact ⟨(true), (wrap64 (x8_2 + 1)), sm_, sm_, H', ⟨by have := HK1.out; have := HK2.out; omega⟩, by repeat (first | exact Drawn0.refl _ | apply Drawn0.step)⟩
   have c11b0 := eq_true (oa_ : 0 ≤ x8_2)
   obtain ⟨ji12, hji12⟩ : ∃ j_ : Int, (shr .i64 x6_1 x8_2) = j_ := ⟨_, rfl⟩
   first | rw [hji12] at H | simp only [hji12] at H
   have hji12_ : (x6_1 / 2 ^ min x8_2.toNat 64) = ji12 := hji12
   have hji12z : x8_2 ≤ 64 → (x6_1 / 2 ^ x8_2.toNat) = ji12 := shr_small hji12
   have H' := mk_ H
   clear H
   have p232 : 0 ≤ (x8_2 : Int) := oa_
   have q232 : x8_2 < (l1.length : Int) := oa_
   obtain ⟨ad232, e232, hx232_0⟩ := Kd.at_int HR1.out x8_2 p232 q232
   cases e232
   replace p232 := eq_true p232
   replace q232 := eq_true q232
   have p233 : 0 ≤ (x8_2 : Int) := oa_
   have q233 : x8_2 < (l1.length : Int) := oa_
   obtain ⟨ad233, e233, hx233_0⟩ := Kd.at_int HR1.out x8_2 p233 q233
   obtain rfl : ad232 = ad233 := (by injection e233)
   replace p233 := eq_true p233
   replace q233 := eq_true q233
   go_wp2
   repeat (go_quiet (fail); try go_wp2)
   go_roundg k2
   case measure => have := HK1.out; have := HK2.out; omega
   case rel => exact ⟨(((rd l1 x8_2) == (Int.tmod (ji12) 2))), (wrap64 (x8_2 + 1)), (by first | rfl | (simp; done) | (simp only [← hji12] <;> (first | rfl | simp)) | (simp [*]; done)), sm_, H', ⟨by have := HK1.out; have := HK2.out; omega⟩, by repeat (first | exact Drawn0.refl _ | apply Drawn0.step)⟩
def spec_l3Table.l0 : Nat → Int → List (S82) → Int → Int → Option (Int)
 | 0, _, _, _, _ => none
 | k + 1, x0, x1, x5, x6 => if 0 ≤ x0 then (if x6 < (shl .i64 1 x0) then ((spec_l3Holds.f k x1 x6).bind fun t234 => (if t234 = true then (if 0 ≤ x6 then (spec_l3Table.l0 k x0 x1 (Go.bits .or .i64 x5 (shl .i64 1 x6)) (wrap64 (x6 + 1))) else (none)) else (spec_l3Table.l0 k x0 x1 x5 (wrap64 (x6 + 1))))) else (some x5)) else (none)
def spec_l3Table.f (k : Nat) (a0 : Int) (l1 : List (S82)) : Option (Int) := spec_l3Table.l0 k a0 l1 0 0
set_option maxHeartbeats 8000000 in
set_option maxRecDepth 100000 in
theorem spec_l3Table.calls (k : Nat) (a0 : Int) (A1 : Option Addr) (c1 : Nat) (l1 : List (S82)) (r : Int) (w : World) (hr1 : Kd.C k82 w A1 l1.length l1) (hc1 : l1.length ≤ c1) (h : spec_l3Table.f k a0 l1 = some r) :
  Calls Tryd.prog 92 #[.int .i64 a0, .slice A1 l1.length c1] w fun e w' => e = .returned (.int .i64 r) ∧ Drawn0 w w' := by
 have HR1 := mk_ hr1
 have HC1 := mk_ hc1
 clear hr1 hc1
 have H : (spec_l3Table.l0 k a0 l1 0 0) = some r := h
 clear h
 have H' := mk_ H
 clear H
 go_enter Tryd.func92, Tryd.ntmps92
 go_wp2
 go_loopg [5, 6] k (fun kq v5 v6 w' => ∃ (x5_1 : Int) (x6_1 : Int), v5 = .int .i64 x5_1 ∧ v6 = .int .i64 x6_1 ∧ Aside0 (spec_l3Table.l0 kq a0 l1 x5_1 x6_1 = some r) ∧ Aside0 (kq ≤ k) ∧ Drawn0 w w')
 case atStart => exact ⟨(0), (0), sm_, sm_, H', ⟨Nat.le_refl _⟩, by repeat (first | exact Drawn0.refl _ | apply Drawn0.step)⟩
 clear H'
 try clear c1
 try clear p2
 obtain ⟨x5_1, x6_1, rfl, rfl, HA, HK1, ⟨m1, rfl⟩⟩ := hrel
 cases gk with
 | zero => exact absurd HA.out (by simp [spec_l3Table.l0])
 | succ k1 =>
  have H := HA.out
  clear HA
  simp only [spec_l3Table.l0] at H
  revert H; refine g_ (et_ fun c3b0 c3b1 H => ?_)
  obtain ⟨ji4, hji4⟩ : ∃ j_ : Int, (shl .i64 1 a0) = j_ := ⟨_, rfl⟩
  first | rw [hji4] at H | simp only [hji4] at H
  have hji4_ : (IntKind.i64.wrap (1 * 2 ^ min a0.toNat 64)) = ji4 := hji4
  have hji4z : a0 ≤ 64 → (IntKind.i64.wrap (1 * 2 ^ a0.toNat)) = ji4 := shl_small hji4
  have hji4u : (IntKind.i64.wrap (2 ^ min a0.toNat 64)) = ji4 := by have h_ := hji4_; rw [Int.one_mul] at h_; exact h_
  have hji4v : a0 ≤ 64 → (IntKind.i64.wrap (2 ^ a0.toNat)) = ji4 := fun hle_ => by have h_ := hji4z hle_; rw [Int.one_mul] at h_; exact h_
  have hji4y : (wrap64 (1 * 2 ^ min a0.toNat 64)) = ji4 := (i64_w _).symm.trans hji4_
  have hji4x : a0 ≤ 64 → (wrap64 (1 * 2 ^ a0.toNat)) = ji4 := fun h_ => (i64_w _).symm.trans (hji4z h_)
  revert H; refine ti_ (df_ fun c5b0 H => ?_) (dt_ fun c5b0 H => ?_)
  ·obtain rfl := Option.some.inj H
   go_wp2
   go_ret
   exact ⟨by first | rfl | (simp; done) | (simp only [← hji4] <;> (first | rfl | simp)) | (simp [*]; done), by repeat (first | exact Drawn0.refl _ | apply Drawn0.step)⟩
  revert H; refine bd_ fun t234 A6 H => ?_
  try dsimp only at H
  revert H; refine bi_ ?_ ?_ <;> rintro rfl H
  ·have H' := mk_ H
   clear H
   go_wp2_with (first | (refine gc_ 100 (some 15) Tryd.func100 #[.slice A1 l1.length c1, .int .i64 x6_1] ?_; (with_reducible refine (spec_l3Holds.calls k1 _ _ l1 x6_1 false _ ?side1 ?side2 A6.out).mono ?_); (case side1 => exact Kd.C_below HR1.out lt_); (case side2 => exact HC1.out); rintro e w' ⟨rfl, ⟨nd, rfl⟩⟩; refine ⟨_, rfl, ?_⟩))
   go_roundg k1
   case measure => have := HK1.out; omega
   case rel => exact ⟨(x5_1), (wrap64 (x6_1 + 1)), sm_, sm_, H', ⟨by have := HK1.out; omega⟩, by repeat (first | exact Drawn0.refl _ | apply Drawn0.step)⟩
  revert H; refine g_ (et_ fun c8b0 c8b1 H => ?_)
  obtain ⟨ji9, hji9⟩ : ∃ j_ : Int, (shl .i64 1 x6_1) = j_ := ⟨_, rfl⟩
  first | rw [hji9] at H | simp only [hji9] at H
  (try rw [hji9] at A6)
  have hji9_ : (IntKind.i64.wrap (1 * 2 ^ min x6_1.toNat 64)) = ji9 := hji9
  have hji9z : x6_1 ≤ 64 → (IntKind.i64.wrap (1 * 2 ^ x6_1.toNat)) = ji9 := shl_small hji9
  have hji9u : (IntKind.i64.wrap (2 ^ min x6_1.toNat 64)) = ji9 := by have h_ := hji9_; rw [Int.one_mul] at h_; exact h_
  have hji9v : x6_1 ≤ 64 → (IntKind.i64.wrap (2 ^ x6_1.toNat)) = ji9 := fun hle_ => by have h_ := hji9z hle_; rw [Int.one_mul] at h_; exact h_
  have hji9y : (wrap64 (1 * 2 ^ min x6_1.toNat 64)) = ji9 := (i64_w _).symm.trans hji9_
  have hji9x : x6_1 ≤ 64 → (wrap64 (1 * 2 ^ x6_1.toNat)) = ji9 := fun h_ => (i64_w _).symm.trans (hji9z h_)
  have H' := mk_ H
  clear H
  go_wp2_with (first | (refine gc_ 100 (some 15) Tryd.func100 #[.slice A1 l1.length c1, .int .i64 x6_1] ?_; (with_reducible refine (spec_l3Holds.calls k1 _ _ l1 x6_1 true _ ?side1 ?side2 A6.out).mono ?_); (case side1 => exact Kd.C_below HR1.out lt_); (case side2 => exact HC1.out); rintro e w' ⟨rfl, ⟨nd, rfl⟩⟩; refine ⟨_, rfl, ?_⟩))
  go_roundg k1
  case measure => have := HK1.out; omega
  case rel => exact ⟨(Go.bits .or .i64 x5_1 (ji9)), (wrap64 (x6_1 + 1)), (by first | rfl | (simp; done) | (simp only [← hji9] <;> (first | rfl | simp)) | (simp [*]; done)), sm_, H', ⟨by have := HK1.out; omega⟩, by repeat (first | exact Drawn0.refl _ | apply Drawn0.step)⟩
end Go.Proofs.YtcaogllnbpmcgaaDoor.P

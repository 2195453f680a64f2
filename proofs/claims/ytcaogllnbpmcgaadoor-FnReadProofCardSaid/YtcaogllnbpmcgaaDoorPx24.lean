/- Go's functions come to just the answers of the Lean functions told here. -/
import Derived.Test.YtcaogllnbpmcgaaDoorPx23
set_option maxHeartbeats 8000000
set_option maxRecDepth 100000
namespace Go.Proofs.YtcaogllnbpmcgaaDoor.P
open Go.RowKit Go.Proofs.YtcaogllnbpmcgaaDoorW.PrintWords Go.Proofs.YtcaogllnbpmcgaaDoorW.PrintLast Go.Proofs.YtcaogllnbpmcgaaDoorW.PrintMore
attribute [local go_sem] max2_int min2_int max_two min_two max_three min_three max_four min_four
set_option linter.unusedVariables false
set_option linter.unusedSimpArgs false
mutual
def spec_l11Read.j0 : Nat → ByteArray → Int → List (S68) → Bool → Option ((List (S68)) × Int × Int)
 | 0, _, _, _, _ => none
 | k + 1, x0, x1, x2, x28 => if x28 = true then (if 0 ≤ x1 then (if x1 < (x0.size : Int) then (some (x2, (-2) - (((bt x0 x1) - 48) % 256), wrap64 (x1 + 1))) else (none)) else (none)) else (if 0 ≤ x1 then (if x1 < (x0.size : Int) then (if (bt x0 x1) < 97 then (some (x2, (-1), (-1))) else (if (bt x0 x1) > 100 then (some (x2, (-1), (-1))) else (if (wrap64 (x1 + 1)) ≥ (x0.size : Int) then (some (x2, (-1), (-1))) else (if 0 ≤ (wrap64 (x1 + 1)) then (if (wrap64 (x1 + 1)) < (x0.size : Int) then (if (bt x0 (wrap64 (x1 + 1))) = 40 then (if (x2.length : Int) ≥ 15 then (some (x2, (-1), (-1))) else ((some (([] : List (S68)) : List (S68))).bind fun y284 => (if y284.length + x2.length < 5864062014805 then ((some (y284 ++ x2 : List (S68))).bind fun y287 => (if y287.length < 5864062014805 then ((spec_l11Read.f k x0 (wrap64 (x1 + 2)) (y287 ++ [(⟨((bt x0 x1) - 97) % 256, (-1), (-1)⟩ : S68)])).bind fun bt293 => (if bt293.2.2 < 0 then (spec_l11Read.j1 k x0 bt293.1 (x2.length : Int) (((bt x0 x1) - 97) % 256) bt293.2.1 bt293.2.2 true) else (if bt293.2.2 ≥ (x0.size : Int) then (spec_l11Read.j1 k x0 bt293.1 (x2.length : Int) (((bt x0 x1) - 97) % 256) bt293.2.1 bt293.2.2 true) else (if 0 ≤ bt293.2.2 then (if bt293.2.2 < (x0.size : Int) then (spec_l11Read.j1 k x0 bt293.1 (x2.length : Int) (((bt x0 x1) - 97) % 256) bt293.2.1 bt293.2.2 ((bt x0 bt293.2.2) != 44)) else (none)) else (none))))) else (none))) else (none)))) else (some (x2, (-1), (-1)))) else (none)) else (none))))) else (none)) else (none))
def spec_l11Read.j1 : Nat → ByteArray → List (S68) → Int → Int → Int → Int → Bool → Option ((List (S68)) × Int × Int)
 | 0, _, _, _, _, _, _, _ => none
 | k + 1, x0, x2, x9, x10, x11, x12, x115 => if x115 = true then (some (x2, (-1), (-1))) else ((spec_l11Read.f k x0 (wrap64 (x12 + 1)) x2).bind fun bt298 => (if bt298.2.2 < 0 then (some (bt298.1, (-1), (-1))) else (if bt298.2.2 ≥ (x0.size : Int) then (some (bt298.1, (-1), (-1))) else (if 0 ≤ bt298.2.2 then (if bt298.2.2 < (x0.size : Int) then (if (bt x0 bt298.2.2) = 41 then (if 0 ≤ x9 then (if x9 < (bt298.1.length : Int) then (some ((bt298.1.set (x9 : Int).toNat (⟨x10, x11, bt298.2.1⟩ : S68)), x9, wrap64 (bt298.2.2 + 1))) else (none)) else (none)) else (some (bt298.1, (-1), (-1)))) else (none)) else (none)))))
def spec_l11Read.f : Nat → ByteArray → Int → List (S68) → Option ((List (S68)) × Int × Int)
 | 0, _, _, _ => none
 | k + 1, a0, a1, l2 => if a1 ≥ (a0.size : Int) then (some (l2, (-1), (-1))) else (if 0 ≤ a1 then (if a1 < (a0.size : Int) then (if (bt a0 a1) = 42 then (some (l2, (-1), wrap64 (a1 + 1))) else (if (bt a0 a1) ≥ 48 then (spec_l11Read.j0 k a0 a1 l2 (decide ((bt a0 a1) ≤ 53))) else (spec_l11Read.j0 k a0 a1 l2 false))) else (none)) else (none))
end
theorem spec_l11Read.calls (k : Nat) : ∀ (c : ByteArray) (d : Int) (g : Nat → Prop) (O : Value) (m : List (S68)) (r1 : List (S68)) (r2 : Int) (r3 : Int) (w0 w : World) (hB : Below w0.heap.size w0 w) (b1 : Kd.R k68 68 w w0.heap.size g O m) (h : spec_l11Read.f k c d m = some (r1, r2, r3)),
  Calls Tryd.prog 49 #[.string c, .int .i64 d, O] w fun e w' => ∃ b2 : Value, e = .returned (.tuple #[b2, .int .i64 r2, .int .i64 r3]) ∧ Kd.R k68 68 w' w0.heap.size (fun k_ => (g k_ ∨ w.heap.size ≤ k_)) b2 r1 ∧ Below w0.heap.size w0 w' ∧ Kept w w' (fun k_ => g k_) := by
 induction k using Nat.strongRecOn with
 | _ k ih =>
 intro c d g O m r1 r2 r3 w0 w hB b1 h
 cases k with
 | zero => exact absurd h (by simp [spec_l11Read.f])
 | succ k =>
 simp only [spec_l11Read.f] at h
 have cQ := Tryd.underlying68
 have a8 := mk_ (show Kd.R k68 68 w w0.heap.size (fun k_ => (g k_ ∨ w.heap.size ≤ k_)) O m from Kd.R_mono b1 (fun k_ hk => (.inl hk)))
 have HK := mk_ (Kept.refl w (fun k_ => g k_))
 have cX := mk_ hB.size
 have HB := mk_ hB
 clear hB
 have H : (if d ≥ (c.size : Int) then (some (m, (-1), (-1))) else (if 0 ≤ d then (if d < (c.size : Int) then (if (bt c d) = 42 then (some (m, (-1), wrap64 (d + 1))) else (if (bt c d) ≥ 48 then (spec_l11Read.j0 k c d m (decide ((bt c d) ≤ 53))) else (spec_l11Read.j0 k c d m false))) else (none)) else (none))) = some (r1, r2, r3) := h
 clear h
 revert H; refine it_ (dt_ fun (c4b0 : decide ((c.size : Int) ≤ d) = true) H => ?_) (df_ fun (c4b0 : decide ((c.size : Int) ≤ d) = false) H => ?_)
 ·simp only [Option.some.injEq, Prod.mk.injEq] at H
  obtain ⟨rfl, rfl, rfl⟩ := H
  go_enter Tryd.func49, Tryd.ntmps49
  go_wp2
  repeat (go_quiet (fail); try go_wp2)
  go_ret3
  exact ⟨_, er_, rl_ a8.out, below_at HB.out, kp_ HK.out⟩
 revert H; refine g_ (dt_ fun bg => g_ (dt_ fun bh => it_ (qt_ fun aV aW H => ?_) (qfk_ fun c8 aV aW H => ?_)))
 ·simp only [Option.some.injEq, Prod.mk.injEq] at H
  obtain ⟨rfl, rfl, rfl⟩ := H
  have bj := bt_at c d
  obtain ⟨p7, q7⟩ := pq_ (d : Int) (c.size : Int)
  go_enter Tryd.func49, Tryd.ntmps49
  go_wp2
  repeat (go_quiet (fail); try go_wp2)
  go_ret3
  exact ⟨_, er_, rl_ a8.out, below_at HB.out, kp_ HK.out⟩
 have bk := mk_ H
 clear H
 have bj := bt_at c d
 obtain ⟨p7, q7⟩ := pq_ (d : Int) (c.size : Int)
 go_enter Tryd.func49, Tryd.ntmps49
 go_upto_region 5 with (fail)
 repeat (go_quiet (fail); go_upto_region 5 with (fail))
 go_cut [28] (fun cs wc => ∃ (kq : Nat) (aD : Bool), cs = .bool aD ∧ Aside0 (spec_l11Read.j0 kq c d m aD = some (r1, r2, r3)) ∧ Aside0 (kq ≤ k) ∧ Aside0 (Kd.R k68 68 wc w0.heap.size (fun k_ => (g k_ ∨ w.heap.size ≤ k_)) O m) ∧ Aside0 (Kept w wc (fun k_ => g k_)) ∧ Aside0 (Below w0.heap.size w0 wc))
 case first =>
  have H := bk.out
  clear bk
  revert H; refine ti_ (df_ fun (c11b0 : decide (48 ≤ (bt c d)) = false) H => ?_) (dt_ fun (c11b0 : decide (48 ≤ (bt c d)) = true) H => ?_)
  ·(first | rw [c11b0] | (simp only [i64_w, i32_w]; rw [c11b0]) | skip)
   have H' := mk_ H
   clear H
   have aX := bt_at c d
   obtain ⟨bn, bo⟩ := pq_ (d : Int) (c.size : Int)
   go_wp2
   repeat (go_quiet (fail); try go_wp2)
   go_meet
   case rel => exact ⟨_, (false), sm_, H', ⟨by first | omega | exact Nat.le_refl _⟩, ⟨Kd.R_below a8.out lt_⟩, ⟨kp_ HK.out⟩, ⟨below_at HB.out⟩⟩
  (first | rw [c11b0] | (simp only [i64_w, i32_w]; rw [c11b0]) | skip)
  have H' := mk_ H
  clear H
  have aX := bt_at c d
  obtain ⟨bn, bo⟩ := pq_ (d : Int) (c.size : Int)
  have bp := bt_at c d
  obtain ⟨b3, b4⟩ := pq_ (d : Int) (c.size : Int)
  go_wp2
  repeat (go_quiet (fail); try go_wp2)
  go_meet
  case rel => exact ⟨_, (decide ((bt c d) ≤ 53)), sm_, H', ⟨by first | omega | exact Nat.le_refl _⟩, ⟨Kd.R_below a8.out lt_⟩, ⟨kp_ HK.out⟩, ⟨below_at HB.out⟩⟩
 clear bk
 try clear c4b0
 try clear bg
 try clear bh
 try clear p7
 try clear q7
 try clear bj
 try clear c8
 try clear aV
 try clear aW
 try clear bn
 try clear bo
 try clear aX
 try clear c11b0
 try clear b3
 try clear b4
 try clear bp
 obtain ⟨kq, aD, rfl, HA, G, a, HK, HB⟩ := hcut
 cases kq with
 | zero => exact absurd HA.out (by simp [spec_l11Read.j0])
 | succ ay =>
  have H := HA.out
  clear HA
  simp only [spec_l11Read.j0] at H
  revert H; refine ib_ ?_ ?_ <;> rintro rfl H
  ·revert H; refine g_ (dt_ fun bJ => g_ (dt_ fun bK H => ?_))
   simp only [Option.some.injEq, Prod.mk.injEq] at H
   obtain ⟨rfl, rfl, rfl⟩ := H
   have cc := bt_at c d
   obtain ⟨ct, cu⟩ := pq_ (d : Int) (c.size : Int)
   go_wp2
   repeat (go_quiet (fail); try go_wp2)
   go_ret3
   exact ⟨_, er_, rl_ a.out, below_at HB.out, kp_ HK.out⟩
  revert H; refine g_ (dt_ fun bL => g_ (dt_ fun bM => it_ (dt_ fun a9 H => ?_) (df_ fun a9 H => ?_)))
  ·simp only [Option.some.injEq, Prod.mk.injEq] at H
   obtain ⟨rfl, rfl, rfl⟩ := H
   have Y := bt_at c d
   obtain ⟨az, aA⟩ := pq_ (d : Int) (c.size : Int)
   go_wp2
   repeat (go_quiet (fail); try go_wp2)
   go_ret3
   exact ⟨_, er_, rl_ a.out, below_at HB.out, kp_ HK.out⟩
  revert H; refine it_ (dt_ fun (c22b0 : decide (100 < (bt c d)) = true) H => ?_) (df_ fun (c22b0 : decide (100 < (bt c d)) = false) H => ?_)
  ·simp only [Option.some.injEq, Prod.mk.injEq] at H
   obtain ⟨rfl, rfl, rfl⟩ := H
   have Y := bt_at c d
   obtain ⟨az, aA⟩ := pq_ (d : Int) (c.size : Int)
   have am := bt_at c d
   obtain ⟨aM, aN⟩ := pq_ (d : Int) (c.size : Int)
   go_wp2
   repeat (go_quiet (fail); try go_wp2)
   go_ret3
   exact ⟨_, er_, rl_ a.out, below_at HB.out, kp_ HK.out⟩
  revert H; refine it_ (dt_ fun (c23b0 : decide ((c.size : Int) ≤ (wrap64 (d + 1))) = true) H => ?_) (df_ fun (c23b0 : decide ((c.size : Int) ≤ (wrap64 (d + 1))) = false) H => ?_)
  ·simp only [Option.some.injEq, Prod.mk.injEq] at H
   obtain ⟨rfl, rfl, rfl⟩ := H
   have Y := bt_at c d
   obtain ⟨az, aA⟩ := pq_ (d : Int) (c.size : Int)
   have am := bt_at c d
   obtain ⟨aM, aN⟩ := pq_ (d : Int) (c.size : Int)
   go_wp2
   repeat (go_quiet (fail); try go_wp2)
   go_ret3
   exact ⟨_, er_, rl_ a.out, below_at HB.out, kp_ HK.out⟩
  obtain ⟨U, s⟩ : ∃ j_ : Int, (wrap64 (d + 1)) = j_ := ⟨_, rfl⟩
  first | rw [s] at H | simp only [s] at H
  (try rw [s] at c23b0)
  have cv : (IntKind.i64.wrap (d + 1)) = U := (i64_w _).trans s
  revert H; refine g_ (dt_ fun bN => g_ (dt_ fun bO => ti_ (qfk_ fun cw ba bb H => ?_) (qt_ fun ba bb H => ?_)))
  ·simp only [Option.some.injEq, Prod.mk.injEq] at H
   obtain ⟨rfl, rfl, rfl⟩ := H
   have Y := bt_at c d
   obtain ⟨az, aA⟩ := pq_ (d : Int) (c.size : Int)
   have am := bt_at c d
   obtain ⟨aM, aN⟩ := pq_ (d : Int) (c.size : Int)
   have aY := bt_at c (U)
   obtain ⟨bq, br⟩ := pq_ ((U) : Int) (c.size : Int)
   go_wp2
   repeat (go_quiet (fail); try go_wp2)
   go_ret3
   exact ⟨_, by first | rfl | (simp [errW_none, errW_some] <;> rfl) | (simp only [← s]; first | rfl | (simp [errW_none, errW_some] <;> rfl)) | (simp [*, errW_none, errW_some] <;> rfl), rl_ a.out, below_at HB.out, kp_ HK.out⟩
  revert H; refine it_ (fun aC H => ?_) fun aC H => ?_
  ·have bc : decide (15 ≤ (m.length : Int)) = true := decide_eq_true aC
   have be : decide (15 ≤ m.length) = true := decide_eq_true (by omega)
   clear aC
   simp only [Option.some.injEq, Prod.mk.injEq] at H
   obtain ⟨rfl, rfl, rfl⟩ := H
   have Y := bt_at c d
   obtain ⟨az, aA⟩ := pq_ (d : Int) (c.size : Int)
   have am := bt_at c d
   obtain ⟨aM, aN⟩ := pq_ (d : Int) (c.size : Int)
   have aY := bt_at c (U)
   obtain ⟨bq, br⟩ := pq_ ((U) : Int) (c.size : Int)
   obtain ⟨cR, cS, cd⟩ := Kd.R_slice a.out
   subst cd
   go_wp2
   repeat (go_quiet (fail); try go_wp2)
   go_ret3
   exact ⟨_, by first | rfl | (simp [errW_none, errW_some] <;> rfl) | (simp only [← s]; first | rfl | (simp [errW_none, errW_some] <;> rfl)) | (simp [*, errW_none, errW_some] <;> rfl), rl_ a.out, below_at HB.out, kp_ HK.out⟩
  have bc : decide (15 ≤ (m.length : Int)) = false := decide_eq_false aC
  have be : decide (15 ≤ m.length) = false := decide_eq_false (by omega)
  clear aC
  obtain ⟨aE, aG⟩ : ∃ y_ : List (S68), y_ = (([] : List (S68))) := ⟨_, rfl⟩
  replace H : (if aE.length + m.length < 5864062014805 then ((some (aE ++ m : List (S68))).bind fun an => (if an.length < 5864062014805 then ((spec_l11Read.f ay c (wrap64 (d + 2)) (an ++ [(⟨((bt c d) - 97) % 256, (-1), (-1)⟩ : S68)])).bind fun u => (if u.2.2 < 0 then (spec_l11Read.j1 ay c u.1 (m.length : Int) (((bt c d) - 97) % 256) u.2.1 u.2.2 true) else (if u.2.2 ≥ (c.size : Int) then (spec_l11Read.j1 ay c u.1 (m.length : Int) (((bt c d) - 97) % 256) u.2.1 u.2.2 true) else (if 0 ≤ u.2.2 then (if u.2.2 < (c.size : Int) then (spec_l11Read.j1 ay c u.1 (m.length : Int) (((bt c d) - 97) % 256) u.2.1 u.2.2 ((bt c u.2.2) != 44)) else (none)) else (none))))) else (none))) else (none)) = some (r1, r2, r3) := by first | (rw [aG]; exact H) | exact H
  have bf := mk_ aG
  clear aG
  revert H; refine g_ (mt_ fun bP H => ?_)
  obtain ⟨an, ah⟩ : ∃ y_ : List (S68), y_ = (aE ++ m) := ⟨_, rfl⟩
  first | (replace H := bn_ ah H; try dsimp only at H) | rw [← ah] at H
  have bQ := mk_ ah
  clear ah
  revert H; refine g_ (mt_ fun bR H => ?_)
  obtain ⟨aZ, ai⟩ : ∃ y_ : List (S68), y_ = (an ++ [(⟨((bt c d) - 97) % 256, (-1), (-1)⟩ : S68)]) := ⟨_, rfl⟩
  first | (replace H := bn_ ai H; try dsimp only at H) | rw [← ai] at H
  have bS := mk_ ai
  clear ai
  replace H := bm_ H; obtain ⟨⟨l, I, x⟩, cx, H⟩ := H
  try dsimp only at H
  have a2 := mk_ H
  clear H
  have Y := bt_at c d
  obtain ⟨az, aA⟩ := pq_ (d : Int) (c.size : Int)
  have am := bt_at c d
  obtain ⟨aM, aN⟩ := pq_ (d : Int) (c.size : Int)
  have aY := bt_at c (U)
  obtain ⟨bq, br⟩ := pq_ ((U) : Int) (c.size : Int)
  obtain ⟨a3, a4, ce⟩ := Kd.R_slice a.out
  subst ce
  have cf := bt_at c d
  obtain ⟨cy, cz⟩ := pq_ (d : Int) (c.size : Int)
  go_upto_region 13 with (first | ((with_reducible refine gate_dst (N := 86) rfl ?_); (try (refine gate_guard (by rfl) ?_; dsimp only)); refine Kd.R_lit k68 _ 68 ?hg (N := 86) ?hd (xs := ([] : List (S68))) (inner := []) (ok := fun _ => True) (okp := fun _ => True) ?hr ?hp (fun _ hk => hk) trivial (Below.refl _ _) (Nat.le_refl _) (by simp) ?_; (case hd => rfl); (case hg => rfl); (case hr => first | (go_simp; done) | (go_simp; rfl)); (case hp => exact (Reps.none _ _)); intro cg cY Z hb cA bT; clear cA bT; (first | rw [← bf.out] at Z | (simp only [Int.reduceToNat] at Z; rw [← bf.out] at Z)); have aH := mk_ (Kd.R_lower (Kd.R_new' (Kd.R_newM (M := fun k_ => (g k_ ∨ w.heap.size ≤ k_)) Z (kp_ HK.out).1 (fun k_ h_ => .inr h_)) (Kd.R_lt (Kd.R_below a.out lt_))) (below_size (below_at HB.out))); replace a := mk_ (Kd.R_elder' (Kd.R_below a.out lt_) (Kd.R_base Z) hb); replace HK := mk_ (Kept.below (S := (fun k_ => g k_)) (kp_ HK.out) hb); replace HB := hs_ HB hb; clear hb Z) | ((with_reducible refine gate_builtin (b := .append) (xs := #[.tmp 86, .tmp 87]) rfl ?_); (try (refine gate_guard (by rfl) ?_; dsimp only)); at_builtin; refine Kd.R_append_rows k68 (w0 := w0) w0.heap.size rfl (.tmp 86) (.tmp 87) 25 68 (.agg #[(.int .i64 0), (.int .i64 0), (.int .i64 0)]) 24 rfl Tryd.underlying25 info68 rfl (by decide) (by omega) cg aE m _ _ _ (fun k_ => (g k_ ∨ w.heap.size ≤ k_) ∧ some k_ ≠ (.slice a3 m.length a4 : Value).ownBlock) (fun _ => False) rfl rfl ?aO ?aR (fun _ _ h => h) (fun _ h => h.elim) ?aF ?aB ?aS ?aL ?_; (case aR => exact Kd.C_below (Kd.R_reads' a.out).2.2 lt_); (case aB => exact (below_at HB.out)); (case aF => exact (fun k_ hk => ⟨(.inr (Nat.le_trans (kp_ HK.out).1 hk)), Kd.fresh' (Kd.R_lt (Kd.R_below a.out lt_)) k_ hk⟩)); (case aO => exact (Kd.R_below (Kd.R_mono aH.out (fun _ hk => ⟨hk.1.1, hk.2⟩)) lt_)); (case aS => exact (below_size (below_at HB.out))); (case aL => have := bP.out; omega); intro ch cZ ho hb hg hat; rw [← bQ.out] at ho; replace a := mk_ (Kd.R_after (ok := (fun k_ => (g k_ ∨ w.heap.size ≤ k_))) (Kd.R_below a.out lt_) hg hat); replace HB := mk_ (hb); replace HK := mk_ (Kept.of_grown (S := (fun k_ => g k_)) hg (kp_ HK.out) (fun k_ e_ => (aH.out.1 k_ e_).1.1)); have aI := mk_ (ho); (try clear aH); clear ho hb hg hat) | ((with_reducible refine gate_builtin (b := .append) (xs := #[.tmp 88, .tmp 91]) rfl ?_); (try (refine gate_guard (by rfl) ?_; dsimp only)); at_builtin; refine Kd.R_append k68 (w0 := w0) w0.heap.size rfl (.tmp 88) (.tmp 91) 25 68 (.agg #[(.int .i64 0), (.int .i64 0), (.int .i64 0)]) 24 rfl Tryd.underlying25 info68 rfl (by decide) (by omega) ch an (⟨((bt c d) - 97) % 256, (-1), (-1)⟩ : S68) [.int .i64 (((bt c d) - 97) % 256), .int .i64 (-1), .int .i64 (-1)] (fun k_ => (g k_ ∨ w.heap.size ≤ k_) ∧ some k_ ≠ (.slice a3 m.length a4 : Value).ownBlock) (fun _ => False) rfl rfl ?aP (fun _ hk => hk.elim) ?aF ?aO ?aB ?aS ?aL ?_; (case aP => exact k68_mkM _ _ _ (⟨((bt c d) - 97) % 256, (-1), (-1)⟩ : S68)); (case aB => exact (below_at HB.out)); (case aF => exact (fun k_ hk => ⟨(.inr (Nat.le_trans (kp_ HK.out).1 hk)), Kd.fresh' (Kd.R_lt (Kd.R_below a.out lt_)) k_ hk⟩)); (case aO => exact (Kd.R_below aI.out lt_)); (case aS => exact (below_size (below_at HB.out))); (case aL => have := bR.out; omega); intro cT c0 ho hb hg hat; rw [← bS.out] at ho; replace a := mk_ (Kd.R_after (ok := (fun k_ => (g k_ ∨ w.heap.size ≤ k_))) (Kd.R_below a.out lt_) hg hat); replace HB := mk_ (hb); replace HK := mk_ (Kept.of_grown (S := (fun k_ => g k_)) hg (kp_ HK.out) (fun k_ e_ => (aI.out.1 k_ e_).1)); have W := mk_ (ho); (try clear aI); clear ho hb hg hat; obtain ⟨bs, bu, ci⟩ := Kd.R_slice W.out; subst ci) | (go_at_call 49; (with_reducible refine (ih ay (by have := G.out; omega) c (wrap64 (d + 2)) (fun k_ => some k_ = (.slice bs aZ.length bu : Value).ownBlock) (.slice bs aZ.length bu) aZ l I x w0 _ ?side1 ?side2 cx.out).mono ?_); (case side1 => exact below_at HB.out); (case side2 => exact Kd.R_tight rfl W.out); rintro e c1 ⟨bv, rfl, o, hb, hkp⟩; have aJ := mk_ (Kd.R_mono (ok' := fun k_ => (g k_ ∨ w.heap.size ≤ k_) ∧ some k_ ≠ (.slice a3 m.length a4 : Value).ownBlock) o (fun k_ hk_ => ⟨Or.elim hk_ (fun hs_ => (W.out.1 k_ (hs_).symm).1) (fun hn_ => (.inr (Nat.le_trans (kp_ HK.out).1 hn_))), Or.elim hk_ (fun hs_ => fun e_ => (((a.out).1 k_ e_.symm).2) hs_) (fun hn_ => (Kd.fresh' (Kd.R_lt (Kd.R_below a.out lt_)) k_ hn_))⟩)); replace a := mk_ (Kd.R_mono (ok' := fun k_ => (g k_ ∨ w.heap.size ≤ k_) ∧ some k_ ≠ (bv : Value).ownBlock) (Kd.R_keptB (a.out) hkp (fun k_ hk_ hs_ => (hk_.2) hs_)) (fun k_ hk_ => ⟨hk_.1.1, fun e_ => Or.elim (o.1 k_ e_.symm) (fun hs_ => hk_.2.1 hs_) (fun hn_ => Nat.not_le.2 hk_.2.2 hn_)⟩)); replace HK := mk_ (Kept.then_ (S := (fun k_ => g k_)) (kp_ HK.out) hkp (fun k_ hs_ => (fun e_ => (W.out.1 k_ e_.symm).1) hs_)); replace HB := mk_ (hb); (try clear W); (try clear hb); (try clear hkp); (try clear o)))
  repeat (go_quiet (fail); try go_wp2)
  (try simp only [Act.put, z0_, z1_, z2_])
  go_cut [115] (fun cj wc => ∃ (kq : Nat) (aa : Bool), cj = .bool aa ∧ Aside0 (spec_l11Read.j1 kq c l (m.length : Int) (((bt c d) - 97) % 256) I x aa = some (r1, r2, r3)) ∧ Aside0 (kq ≤ ay) ∧ Aside0 (Kd.R k68 68 wc w0.heap.size (fun k_ => (g k_ ∨ w.heap.size ≤ k_)) bv l) ∧ Aside0 (Kept w wc (fun k_ => g k_)) ∧ Aside0 (Below w0.heap.size w0 wc))
  case first =>
   have H := a2.out
   clear a2
   revert H; refine it_ (dt_ fun P H => ?_) (df_ fun P H => ?_)
   ·(first | rw [P] | (simp only [i64_w, i32_w]; rw [P]) | skip)
    have H' := mk_ H
    clear H
    go_wp2
    repeat (go_quiet (fail); try go_wp2)
    (try subst s)
    go_meet
    case rel => exact ⟨_, (true), sm_, H', ⟨by have := G.out; first | omega | exact Nat.le_refl _⟩, ⟨Kd.R_below (Kd.R_mono aJ.out (fun _ hk => hk.1)) lt_⟩, ⟨kp_ HK.out⟩, ⟨below_at HB.out⟩⟩
   (first | rw [P] | (simp only [i64_w, i32_w]; rw [P]) | skip)
   revert H; refine it_ (dt_ fun (c44b0 : decide ((c.size : Int) ≤ x) = true) H => ?_) (df_ fun (c44b0 : decide ((c.size : Int) ≤ x) = false) H => ?_)
   ·have H' := mk_ H
    clear H
    go_wp2
    repeat (go_quiet (fail); try go_wp2)
    (try subst s)
    go_meet
    case rel => exact ⟨_, (true), sm_, H', ⟨by have := G.out; first | omega | exact Nat.le_refl _⟩, ⟨Kd.R_below (Kd.R_mono aJ.out (fun _ hk => hk.1)) lt_⟩, ⟨kp_ HK.out⟩, ⟨below_at HB.out⟩⟩
   revert H; refine g_ (dt_ fun bU => g_ (dt_ fun bV H => ?_))
   have H' := mk_ H
   clear H
   have ck := bt_at c x
   obtain ⟨cB, cC⟩ := pq_ (x : Int) (c.size : Int)
   go_wp2
   repeat (go_quiet (fail); try go_wp2)
   (try subst s)
   go_meet
   case rel => exact ⟨_, (((bt c x) != 44)), sm_, H', ⟨by have := G.out; first | omega | exact Nat.le_refl _⟩, ⟨Kd.R_below (Kd.R_mono aJ.out (fun _ hk => hk.1)) lt_⟩, ⟨kp_ HK.out⟩, ⟨below_at HB.out⟩⟩
  clear a2
  try clear c4b0
  try clear bg
  try clear bh
  try clear p7
  try clear q7
  try clear bj
  try clear c8
  try clear aV
  try clear aW
  try clear bn
  try clear bo
  try clear aX
  try clear c11b0
  try clear b3
  try clear b4
  try clear bp
  try clear bJ
  try clear bK
  try clear ct
  try clear cu
  try clear cc
  try clear bL
  try clear bM
  try clear az
  try clear aA
  try clear Y
  try clear a9
  try clear aM
  try clear aN
  try clear am
  try clear c22b0
  try clear c23b0
  try clear bN
  try clear bO
  try clear bq
  try clear br
  try clear aY
  try clear cw
  try clear ba
  try clear bb
  try clear aC
  try clear bc
  try clear be
  try clear cy
  try clear cz
  try clear cf
  try clear P
  try clear c44b0
  try clear bU
  try clear bV
  try clear cB
  try clear cC
  try clear ck
  obtain ⟨kq, aa, rfl, HA, J, a, HK, HB⟩ := hcut
  cases kq with
  | zero => exact absurd HA.out (by simp [spec_l11Read.j1])
  | succ K =>
   have H := HA.out
   clear HA
   simp only [spec_l11Read.j1] at H
   revert H; refine ib_ ?_ ?_ <;> rintro rfl H
   ·simp only [Option.some.injEq, Prod.mk.injEq] at H
    obtain ⟨rfl, rfl, rfl⟩ := H
    go_wp2
    repeat (go_quiet (fail); try go_wp2)
    go_ret3
    exact ⟨_, by first | rfl | (simp [errW_none, errW_some] <;> rfl) | (simp only [← s]; first | rfl | (simp [errW_none, errW_some] <;> rfl)) | (simp [*, errW_none, errW_some] <;> rfl), rl_ a.out, below_at HB.out, kp_ HK.out⟩
   replace H := bm_ H; obtain ⟨⟨n, r, q⟩, T, H⟩ := H
   try dsimp only at H
   revert H; refine it_ (dt_ fun bW H => ?_) (df_ fun bW H => ?_)
   ·simp only [Option.some.injEq, Prod.mk.injEq] at H
    obtain ⟨rfl, rfl, rfl⟩ := H
    obtain ⟨ab, ac, cl⟩ := Kd.R_slice a.out
    subst cl
    go_wp2_with (first | (go_at_call 49; (with_reducible refine (ih K (by have := G.out; have := J.out; omega) c (wrap64 (x + 1)) (fun k_ => some k_ = (.slice ab l.length ac : Value).ownBlock) (.slice ab l.length ac) l n r q w0 _ ?side1 ?side2 T.out).mono ?_); (case side1 => exact below_at HB.out); (case side2 => exact Kd.R_tight rfl a.out); rintro e b5 ⟨L, rfl, o, hb, hkp⟩; have i := mk_ (Kd.R_mono (ok' := fun k_ => (g k_ ∨ w.heap.size ≤ k_)) o (fun k_ hk_ => Or.elim hk_ (fun hs_ => (a.out.1 k_ (hs_).symm)) (fun hn_ => (.inr (Nat.le_trans (kp_ HK.out).1 hn_))))); replace HK := mk_ (Kept.then_ (S := (fun k_ => g k_)) (kp_ HK.out) hkp (fun k_ hs_ => (fun e_ => (a.out.1 k_ e_.symm)) hs_)); replace HB := mk_ (hb); (try clear a); (try clear hb); (try clear hkp); (try clear o)))
    repeat (go_quiet (first | (go_at_call 49; (with_reducible refine (ih K (by have := G.out; have := J.out; omega) c (wrap64 (x + 1)) (fun k_ => some k_ = (.slice ab l.length ac : Value).ownBlock) (.slice ab l.length ac) l n r q w0 _ ?side1 ?side2 T.out).mono ?_); (case side1 => exact below_at HB.out); (case side2 => exact Kd.R_tight rfl a.out); rintro e b5 ⟨L, rfl, o, hb, hkp⟩; have z := mk_ (Kd.R_mono (ok' := fun k_ => (g k_ ∨ w.heap.size ≤ k_)) o (fun k_ hk_ => Or.elim hk_ (fun hs_ => (a.out.1 k_ (hs_).symm)) (fun hn_ => (.inr (Nat.le_trans (kp_ HK.out).1 hn_))))); have A := mk_ (Kept.then_ (S := (fun k_ => g k_)) (kp_ HK.out) hkp (fun k_ hs_ => (fun e_ => (a.out.1 k_ e_.symm)) hs_)); have B := mk_ (hb); clear HK; clear HB; clear a; have i := z; have HK := A; have HB := B; clear z A B; (try clear hb); (try clear hkp); (try clear o))); try go_wp2_with (first | (go_at_call 49; (with_reducible refine (ih K (by have := G.out; have := J.out; omega) c (wrap64 (x + 1)) (fun k_ => some k_ = (.slice ab l.length ac : Value).ownBlock) (.slice ab l.length ac) l n r q w0 _ ?side1 ?side2 T.out).mono ?_); (case side1 => exact below_at HB.out); (case side2 => exact Kd.R_tight rfl a.out); rintro e b5 ⟨L, rfl, o, hb, hkp⟩; have z := mk_ (Kd.R_mono (ok' := fun k_ => (g k_ ∨ w.heap.size ≤ k_)) o (fun k_ hk_ => Or.elim hk_ (fun hs_ => (a.out.1 k_ (hs_).symm)) (fun hn_ => (.inr (Nat.le_trans (kp_ HK.out).1 hn_))))); have A := mk_ (Kept.then_ (S := (fun k_ => g k_)) (kp_ HK.out) hkp (fun k_ hs_ => (fun e_ => (a.out.1 k_ e_.symm)) hs_)); have B := mk_ (hb); clear HK; clear HB; clear a; have i := z; have HK := A; have HB := B; clear z A B; (try clear hb); (try clear hkp); (try clear o))))
    go_ret3
    exact ⟨_, by first | rfl | (simp [errW_none, errW_some] <;> rfl) | (simp only [← s]; first | rfl | (simp [errW_none, errW_some] <;> rfl)) | (simp [*, errW_none, errW_some] <;> rfl), rl_ i.out, below_at HB.out, kp_ HK.out⟩
   revert H; refine it_ (dt_ fun (c53b0 : decide ((c.size : Int) ≤ q) = true) H => ?_) (df_ fun (c53b0 : decide ((c.size : Int) ≤ q) = false) H => ?_)
   ·simp only [Option.some.injEq, Prod.mk.injEq] at H
    obtain ⟨rfl, rfl, rfl⟩ := H
    obtain ⟨ad, ae, cm⟩ := Kd.R_slice a.out
    subst cm
    go_wp2_with (first | (go_at_call 49; (with_reducible refine (ih K (by have := G.out; have := J.out; omega) c (wrap64 (x + 1)) (fun k_ => some k_ = (.slice ad l.length ae : Value).ownBlock) (.slice ad l.length ae) l n r q w0 _ ?side1 ?side2 T.out).mono ?_); (case side1 => exact below_at HB.out); (case side2 => exact Kd.R_tight rfl a.out); rintro e b6 ⟨L, rfl, o, hb, hkp⟩; have i := mk_ (Kd.R_mono (ok' := fun k_ => (g k_ ∨ w.heap.size ≤ k_)) o (fun k_ hk_ => Or.elim hk_ (fun hs_ => (a.out.1 k_ (hs_).symm)) (fun hn_ => (.inr (Nat.le_trans (kp_ HK.out).1 hn_))))); replace HK := mk_ (Kept.then_ (S := (fun k_ => g k_)) (kp_ HK.out) hkp (fun k_ hs_ => (fun e_ => (a.out.1 k_ e_.symm)) hs_)); replace HB := mk_ (hb); (try clear a); (try clear hb); (try clear hkp); (try clear o)))
    repeat (go_quiet (first | (go_at_call 49; (with_reducible refine (ih K (by have := G.out; have := J.out; omega) c (wrap64 (x + 1)) (fun k_ => some k_ = (.slice ad l.length ae : Value).ownBlock) (.slice ad l.length ae) l n r q w0 _ ?side1 ?side2 T.out).mono ?_); (case side1 => exact below_at HB.out); (case side2 => exact Kd.R_tight rfl a.out); rintro e b6 ⟨L, rfl, o, hb, hkp⟩; have z := mk_ (Kd.R_mono (ok' := fun k_ => (g k_ ∨ w.heap.size ≤ k_)) o (fun k_ hk_ => Or.elim hk_ (fun hs_ => (a.out.1 k_ (hs_).symm)) (fun hn_ => (.inr (Nat.le_trans (kp_ HK.out).1 hn_))))); have A := mk_ (Kept.then_ (S := (fun k_ => g k_)) (kp_ HK.out) hkp (fun k_ hs_ => (fun e_ => (a.out.1 k_ e_.symm)) hs_)); have B := mk_ (hb); clear HK; clear HB; clear a; have i := z; have HK := A; have HB := B; clear z A B; (try clear hb); (try clear hkp); (try clear o))); try go_wp2_with (first | (go_at_call 49; (with_reducible refine (ih K (by have := G.out; have := J.out; omega) c (wrap64 (x + 1)) (fun k_ => some k_ = (.slice ad l.length ae : Value).ownBlock) (.slice ad l.length ae) l n r q w0 _ ?side1 ?side2 T.out).mono ?_); (case side1 => exact below_at HB.out); (case side2 => exact Kd.R_tight rfl a.out); rintro e b6 ⟨L, rfl, o, hb, hkp⟩; have z := mk_ (Kd.R_mono (ok' := fun k_ => (g k_ ∨ w.heap.size ≤ k_)) o (fun k_ hk_ => Or.elim hk_ (fun hs_ => (a.out.1 k_ (hs_).symm)) (fun hn_ => (.inr (Nat.le_trans (kp_ HK.out).1 hn_))))); have A := mk_ (Kept.then_ (S := (fun k_ => g k_)) (kp_ HK.out) hkp (fun k_ hs_ => (fun e_ => (a.out.1 k_ e_.symm)) hs_)); have B := mk_ (hb); clear HK; clear HB; clear a; have i := z; have HK := A; have HB := B; clear z A B; (try clear hb); (try clear hkp); (try clear o))))
    go_ret3
    exact ⟨_, by first | rfl | (simp [errW_none, errW_some] <;> rfl) | (simp only [← s]; first | rfl | (simp [errW_none, errW_some] <;> rfl)) | (simp [*, errW_none, errW_some] <;> rfl), rl_ i.out, below_at HB.out, kp_ HK.out⟩
   revert H; refine g_ (dt_ fun cK => g_ (dt_ fun cL => ti_ (qfk_ fun da bX bY H => ?_) (qt_ fun bX bY H => ?_)))
   ·simp only [Option.some.injEq, Prod.mk.injEq] at H
    obtain ⟨rfl, rfl, rfl⟩ := H
    obtain ⟨af, ag, cn⟩ := Kd.R_slice a.out
    subst cn
    go_wp2_with (first | (go_at_call 49; (with_reducible refine (ih K (by have := G.out; have := J.out; omega) c (wrap64 (x + 1)) (fun k_ => some k_ = (.slice af l.length ag : Value).ownBlock) (.slice af l.length ag) l n r q w0 _ ?side1 ?side2 T.out).mono ?_); (case side1 => exact below_at HB.out); (case side2 => exact Kd.R_tight rfl a.out); rintro e b7 ⟨L, rfl, o, hb, hkp⟩; have i := mk_ (Kd.R_mono (ok' := fun k_ => (g k_ ∨ w.heap.size ≤ k_)) o (fun k_ hk_ => Or.elim hk_ (fun hs_ => (a.out.1 k_ (hs_).symm)) (fun hn_ => (.inr (Nat.le_trans (kp_ HK.out).1 hn_))))); replace HK := mk_ (Kept.then_ (S := (fun k_ => g k_)) (kp_ HK.out) hkp (fun k_ hs_ => (fun e_ => (a.out.1 k_ e_.symm)) hs_)); replace HB := mk_ (hb); (try clear a); (try clear hb); (try clear hkp); (try clear o); have a5 := bt_at c q; obtain ⟨bw, bx⟩ := pq_ (q : Int) (c.size : Int)))
    repeat (go_quiet (first | (go_at_call 49; (with_reducible refine (ih K (by have := G.out; have := J.out; omega) c (wrap64 (x + 1)) (fun k_ => some k_ = (.slice af l.length ag : Value).ownBlock) (.slice af l.length ag) l n r q w0 _ ?side1 ?side2 T.out).mono ?_); (case side1 => exact below_at HB.out); (case side2 => exact Kd.R_tight rfl a.out); rintro e b7 ⟨L, rfl, o, hb, hkp⟩; have z := mk_ (Kd.R_mono (ok' := fun k_ => (g k_ ∨ w.heap.size ≤ k_)) o (fun k_ hk_ => Or.elim hk_ (fun hs_ => (a.out.1 k_ (hs_).symm)) (fun hn_ => (.inr (Nat.le_trans (kp_ HK.out).1 hn_))))); have A := mk_ (Kept.then_ (S := (fun k_ => g k_)) (kp_ HK.out) hkp (fun k_ hs_ => (fun e_ => (a.out.1 k_ e_.symm)) hs_)); have B := mk_ (hb); clear HK; clear HB; clear a; have i := z; have HK := A; have HB := B; clear z A B; (try clear hb); (try clear hkp); (try clear o); have a5 := bt_at c q; obtain ⟨bw, bx⟩ := pq_ (q : Int) (c.size : Int))); try go_wp2_with (first | (go_at_call 49; (with_reducible refine (ih K (by have := G.out; have := J.out; omega) c (wrap64 (x + 1)) (fun k_ => some k_ = (.slice af l.length ag : Value).ownBlock) (.slice af l.length ag) l n r q w0 _ ?side1 ?side2 T.out).mono ?_); (case side1 => exact below_at HB.out); (case side2 => exact Kd.R_tight rfl a.out); rintro e b7 ⟨L, rfl, o, hb, hkp⟩; have z := mk_ (Kd.R_mono (ok' := fun k_ => (g k_ ∨ w.heap.size ≤ k_)) o (fun k_ hk_ => Or.elim hk_ (fun hs_ => (a.out.1 k_ (hs_).symm)) (fun hn_ => (.inr (Nat.le_trans (kp_ HK.out).1 hn_))))); have A := mk_ (Kept.then_ (S := (fun k_ => g k_)) (kp_ HK.out) hkp (fun k_ hs_ => (fun e_ => (a.out.1 k_ e_.symm)) hs_)); have B := mk_ (hb); clear HK; clear HB; clear a; have i := z; have HK := A; have HB := B; clear z A B; (try clear hb); (try clear hkp); (try clear o); have a5 := bt_at c q; obtain ⟨bw, bx⟩ := pq_ (q : Int) (c.size : Int))))
    go_ret3
    exact ⟨_, by first | rfl | (simp [errW_none, errW_some] <;> rfl) | (simp only [← s]; first | rfl | (simp [errW_none, errW_some] <;> rfl)) | (simp [*, errW_none, errW_some] <;> rfl), rl_ i.out, below_at HB.out, kp_ HK.out⟩
   revert H; refine g_ (fun b8 H => ?_)
   have cM : decide (0 ≤ (m.length : Int)) = true := decide_eq_true b8
   have cN : decide (0 ≤ m.length) = true := decide_eq_true (by omega)
   clear b8
   revert H; refine g_ (fun bz H => ?_)
   have cO : decide ((m.length : Int) < (n.length : Int)) = true := decide_eq_true bz
   have cP : decide (m.length < n.length) = true := decide_eq_true (Int.ofNat_lt.mp bz)
   clear bz
   obtain ⟨co, aj⟩ : ∃ y_ : List (S68), y_ = (n.set ((m.length : Int) : Int).toNat (⟨(((bt c d) - 97) % 256), I, r⟩ : S68)) := ⟨_, rfl⟩
   first | (replace H := bn_ aj H; try dsimp only at H) | rw [← aj] at H
   have bZ := mk_ aj
   clear aj
   simp only [Option.some.injEq, Prod.mk.injEq] at H
   obtain ⟨rfl, rfl, rfl⟩ := H
   obtain ⟨bA, bB, cp⟩ := Kd.R_slice a.out
   subst cp
   go_wp2_with (first | (go_at_call 49; (with_reducible refine (ih K (by have := G.out; have := J.out; omega) c (wrap64 (x + 1)) (fun k_ => some k_ = (.slice bA l.length bB : Value).ownBlock) (.slice bA l.length bB) l n r q w0 _ ?side1 ?side2 T.out).mono ?_); (case side1 => exact below_at HB.out); (case side2 => exact Kd.R_tight rfl a.out); rintro e w64 ⟨L, rfl, o, hb, hkp⟩; have i := mk_ (Kd.R_mono (ok' := fun k_ => (g k_ ∨ w.heap.size ≤ k_)) o (fun k_ hk_ => Or.elim hk_ (fun hs_ => (a.out.1 k_ (hs_).symm)) (fun hn_ => (.inr (Nat.le_trans (kp_ HK.out).1 hn_))))); replace HK := mk_ (Kept.then_ (S := (fun k_ => g k_)) (kp_ HK.out) hkp (fun k_ hs_ => (fun e_ => (a.out.1 k_ e_.symm)) hs_)); replace HB := mk_ (hb); (try clear a); (try clear hb); (try clear hkp); (try clear o); have a5 := bt_at c q; obtain ⟨bw, bx⟩ := pq_ (q : Int) (c.size : Int); have bC : 0 ≤ ((m.length : Int) : Int) := oa_; have bD : ((m.length : Int) : Int) < ((n.length : Int) : Int) := oa_; obtain ⟨y, a6, bE, bF, cq, cU, bG⟩ := Kd.R_form i.out (by omega); (first | cases bE | (injection bE with ea_ en_ ec_; (first | subst ea_ | (injection ea_ with ea_; subst ea_)); subst ec_; clear en_)); have a7 := mk_ bF; have cV := mk_ bG; clear bF cq bG; have cD := mk_ (show (g y ∨ w.heap.size ≤ y) from (i.out.1 _ rfl)); obtain ⟨cW, b0, bH, ak, al⟩ := Kd.R_elem i.out z68 ((m.length : Int) : Int) bC bD; obtain rfl := k68_openM bH; have cE : w64.cell? ⟨y, m.length * 3, none⟩ = some (.int .i64 ((rd_T68 n (m.length : Int)).f0)) := ak 0 _ rfl; have cF : w64.cell? ⟨y, m.length * 3 + 1, none⟩ = some (.int .i64 ((rd_T68 n (m.length : Int)).f1)) := ak 1 _ rfl; have cG : w64.cell? ⟨y, m.length * 3 + 2, none⟩ = some (.int .i64 ((rd_T68 n (m.length : Int)).f2)) := ak 2 _ rfl; have cH : w64.frozen? ⟨y, m.length * 3, none⟩ = false := al 0; have cI : w64.frozen? ⟨y, m.length * 3 + 1, none⟩ = false := al 1; have cJ : w64.frozen? ⟨y, m.length * 3 + 2, none⟩ = false := al 2; (try clear bH); clear b0 ak al; replace bC := eq_true bC; replace bD := eq_true bD; have ao := mk_ (show Kd.R k68 68 w64 w0.heap.size (fun k_ => (g k_ ∨ w.heap.size ≤ k_)) (.slice (some ⟨y, 0, none⟩) n.length a6) n from (Kd.R_below i.out lt_)); obtain ⟨cr, X, ap, D, E⟩ := Kd.R_elem ao.out z68 ((m.length : Int) : Int) (oa_) (by have h_ : ((m.length : Int) : Int) < ((n.length : Int) : Int) := oa_; first | exact h_ | (have e_ := (Kd.R_reads' i.out).1; omega) | simpa using h_); obtain rfl := k68_openM ap; have aK := Kd.R_seg ao.out ((m.length : Int) : Int) (oa_) (by have h_ : ((m.length : Int) : Int) < ((n.length : Int) : Int) := oa_; first | exact h_ | (have e_ := (Kd.R_reads' i.out).1; omega) | simpa using h_) (seg := [.int .i64 (((bt c d) - 97) % 256), .int .i64 I, .int .i64 r]) (j := 0) X D (show 3 ≤ 3 from by decide) (x' := (⟨(((bt c d) - 97) % 256), I, r⟩ : S68)) (k68_mkM _ _ _ (⟨(((bt c d) - 97) % 256), I, r⟩ : S68) ) (fun _ hk => hk); have aq := D 0 _ rfl; (try simp only [show (k68).sz = 3 from rfl, Nat.mul_one, Nat.add_zero, Int.toNat_natCast] at aq); have ar := E 0; (try simp only [show (k68).sz = 3 from rfl, Nat.mul_one, Nat.add_zero, Int.toNat_natCast] at ar); have au := D 1 _ rfl; (try simp only [show (k68).sz = 3 from rfl, Nat.mul_one, Nat.add_zero, Int.toNat_natCast] at au); have av := E 1; (try simp only [show (k68).sz = 3 from rfl, Nat.mul_one, Nat.add_zero, Int.toNat_natCast] at av); have aw := D 2 _ rfl; (try simp only [show (k68).sz = 3 from rfl, Nat.mul_one, Nat.add_zero, Int.toNat_natCast] at aw); have ax := E 2; (try simp only [show (k68).sz = 3 from rfl, Nat.mul_one, Nat.add_zero, Int.toNat_natCast] at ax); (try clear ap); clear X D E) | ((with_reducible refine gate_store (t := 68) (p := 147) rfl ?_); (try (rw [drewN_self w64]; generalize hq_ : World.drewN w64 _ = w64; have z := mk_ (Kd.R_at hq_ i.out); have A := mk_ (kept_at hq_ HK.out); have B := mk_ (below_at hq_ HB.out); clear hq_ i HK HB; have i := z; have HK := A; have HB := B; clear z A B; (try (have ao := mk_ (show Kd.R k68 68 w64 w0.heap.size (fun k_ => (g k_ ∨ w.heap.size ≤ k_)) (.slice (some ⟨y, 0, none⟩) n.length a6) n from (Kd.R_below i.out lt_)))); (try (obtain ⟨cr, X, ap, D, E⟩ := Kd.R_elem ao.out z68 ((m.length : Int) : Int) (oa_) (by have h_ : ((m.length : Int) : Int) < ((n.length : Int) : Int) := oa_; first | exact h_ | (have e_ := (Kd.R_reads' i.out).1; omega) | simpa using h_))); (try (obtain rfl := k68_openM ap)); (try (have aK := Kd.R_seg ao.out ((m.length : Int) : Int) (oa_) (by have h_ : ((m.length : Int) : Int) < ((n.length : Int) : Int) := oa_; first | exact h_ | (have e_ := (Kd.R_reads' i.out).1; omega) | simpa using h_) (seg := [.int .i64 (((bt c d) - 97) % 256), .int .i64 I, .int .i64 r]) (j := 0) X D (show 3 ≤ 3 from by decide) (x' := (⟨(((bt c d) - 97) % 256), I, r⟩ : S68)) (k68_mkM _ _ _ (⟨(((bt c d) - 97) % 256), I, r⟩ : S68) ) (fun _ hk => hk))); (try (have aq := D 0 _ rfl)); (try (try simp only [show (k68).sz = 3 from rfl, Nat.mul_one, Nat.add_zero, Int.toNat_natCast] at aq)); (try (have ar := E 0)); (try (try simp only [show (k68).sz = 3 from rfl, Nat.mul_one, Nat.add_zero, Int.toNat_natCast] at ar)); (try (have au := D 1 _ rfl)); (try (try simp only [show (k68).sz = 3 from rfl, Nat.mul_one, Nat.add_zero, Int.toNat_natCast] at au)); (try (have av := E 1)); (try (try simp only [show (k68).sz = 3 from rfl, Nat.mul_one, Nat.add_zero, Int.toNat_natCast] at av)); (try (have aw := D 2 _ rfl)); (try (try simp only [show (k68).sz = 3 from rfl, Nat.mul_one, Nat.add_zero, Int.toNat_natCast] at aw)); (try (have ax := E 2)); (try (try simp only [show (k68).sz = 3 from rfl, Nat.mul_one, Nat.add_zero, Int.toNat_natCast] at ax)); (try ((try clear ap); clear X D E)))); refine store_event (t := 68) (p := 147) (v := ?vo_w66) (w1 := (((w64.setCell ⟨y, m.length * 3, none⟩ (.int .i64 (((bt c d) - 97) % 256))).setCell ⟨y, m.length * 3 + 1, none⟩ (.int .i64 I)).setCell ⟨y, m.length * 3 + 2, none⟩ (.int .i64 r))) ?hg ?ho ?hn ?hr ?_; (case ho => rfl); (case hg => rfl); (case hn => rfl); (case hr => first | (go_simp; done) | (go_simp; rfl)); intro bI hw; have hg : w64.grownBy bI (some y) := (by rw [hw]; exact aK.2); have b9 : Kd.R k68 68 bI w0.heap.size (fun k_ => (g k_ ∨ w.heap.size ≤ k_)) (.slice (some ⟨y, 0, none⟩) n.length a6) co := (by rw [hw, bZ.out]; exact aK.1); clear aK; replace HB := mk_ ((by rw [hw]; exact below_set (below_set (below_set (HB.out) a7.out) a7.out) a7.out : Below w0.heap.size w0 bI)); replace HK := mk_ (Kept.of_grown (S := (fun k_ => g k_)) hg (kp_ HK.out) (fun k_ e_ => (i.out.1 k_ e_))); replace i := mk_ (b9); clear hg hw b9))
   repeat (go_quiet (fail); try go_wp2)
   go_ret3
   exact ⟨_, by first | rfl | (simp [errW_none, errW_some] <;> rfl) | (simp only [← s]; first | rfl | (simp [errW_none, errW_some] <;> rfl)) | (simp [*, errW_none, errW_some] <;> rfl), rl_ i.out, below_at HB.out, kp_ HK.out⟩
def spec_ReadProof.f (k : Nat) (a0 : Int) (l1 : List (S79)) (l2 : List (S82)) (a3 : ByteArray) : Option (Int × (List (S68)) × Bool) := if (a3.size : Int) > 200 then (some (0, ([] : List (S68)), false)) else ((spec_l11Read.f k a3 0 (([] : List (S68)))).bind fun bt308 => (if bt308.2.2 = (a3.size : Int) then ((spec_ProofText.f k a0 l1 l2 bt308.2.1 bt308.1).bind fun t314 => (if t314.toList = a3.toList then (some (bt308.2.1, bt308.1, true)) else (some (0, ([] : List (S68)), false)))) else (some (0, ([] : List (S68)), false))))
theorem spec_ReadProof.calls (k : Nat) (a0 : Int) (A1 : Option Addr) (c1 : Nat) (l1 : List (S79)) (A2 : Option Addr) (c2 : Nat) (L : List (S82)) (v : ByteArray) (r1 : Int) (r2 : List (S68)) (r3 : Bool) (w : World) (ah : Kd.C k79 w A1 l1.length l1) (ai : l1.length ≤ c1) (aj : Kd.C k82 w A2 L.length L) (ak : L.length ≤ c2) (h : spec_ReadProof.f k a0 l1 L v = some (r1, r2, r3)) :
  Calls Tryd.prog 22 #[.int .i64 a0, .slice A1 l1.length c1, .slice A2 L.length c2, .string v] w fun e w' => ∃ al : Value, e = .returned (.tuple #[.agg #[.int .i64 r1, al], .bool r3]) ∧ Kd.R k68 68 w' w.heap.size (fun _ => True) al r2 ∧ Below w.heap.size w w' := by
 have bu := Tryd.underlying27
 have am := mk_ ah
 have an := mk_ ai
 clear ah ai
 have ao := mk_ aj
 have ap := mk_ ak
 clear aj ak
 have HB := mk_ (Below.refl w.heap.size w)
 unfold spec_ReadProof.f at h
 have H := h
 clear h
 revert H; refine it_ (fun c5 H => ?_) fun c5 H => ?_
 ·have aw : decide (200 < (v.size : Int)) = true := decide_eq_true c5
  have ax : decide (200 < v.size) = true := decide_eq_true (by omega)
  clear c5
  simp only [Option.some.injEq, Prod.mk.injEq] at H
  obtain ⟨rfl, rfl, rfl⟩ := H
  go_enter Tryd.func22, Tryd.ntmps22
  go_wp2_with (first | ((with_reducible refine gate_dst (N := 8) rfl ?_); refine gx_ 8 #[.int .i64 0, .slice none 0 0] 27 ?_; intro q hg w6 i hb; have a := mk_ (i); have r := gm_ hg HB.out; have G := r; replace HB := hs_ HB hb; clear hb i hg; obtain ⟨bg, bh, bj, bk⟩ := b2_ a))
  refine bodyPost_ret (results_ct rfl _ _ q 27 #[.int .i64 0, .slice none 0 0] (0, 0) _ rfl (by refine bs_ ?_; refine blk_put (cs := #[.int .i64 0, .slice none 0 0]) ?_ 1 _ rfl; refine bs_ ?_; refine blk_put (cs := #[.int .i64 0, .slice none 0 0]) ?_ 0 _ rfl; refine bs_ ?_; exact a.out) Tryd.underlying27 rfl (by kernel_rfl)) rfl ?_
  exact ⟨_, er_, by first | exact Kd.R_nil _ _ _ _ _ | exact Kd.N_nil _ _ _ _ _ | exact Kd.V_nil _ _ _ _ _ | exact Kd.Q_nil _ _ _ _ _ | exact Kd.S_nil _ _ _ _ _, at_ HB.out⟩
 have aw : decide (200 < (v.size : Int)) = false := decide_eq_false c5
 have ax : decide (200 < v.size) = false := decide_eq_false (by omega)
 clear c5
 obtain ⟨m, I⟩ : ∃ y_ : List (S68), y_ = (([] : List (S68))) := ⟨_, rfl⟩
 replace H : ((spec_l11Read.f k v 0 m).bind fun x => (if x.2.2 = (v.size : Int) then ((spec_ProofText.f k a0 l1 L x.2.1 x.1).bind fun J => (if J.toList = v.toList then (some (x.2.1, x.1, true)) else (some (0, ([] : List (S68)), false)))) else (some (0, ([] : List (S68)), false)))) = some (r1, r2, r3) := by first | (rw [I]; exact H) | exact H
 have u := mk_ I
 clear I
 replace H := bm_ H; obtain ⟨⟨s, t, O⟩, A8, H⟩ := H
 try dsimp only at H
 revert H; refine ti_ (qfk_ fun c9 az aA H => ?_) (qt_ fun az aA H => ?_)
 ·simp only [Option.some.injEq, Prod.mk.injEq] at H
  obtain ⟨rfl, rfl, rfl⟩ := H
  go_enter Tryd.func22, Tryd.ntmps22
  go_wp2_with (first | ((with_reducible refine gate_dst (N := 8) rfl ?_); refine gx_ 8 #[.int .i64 0, .slice none 0 0] 27 ?_; intro q hg bz i hb; have a := mk_ (i); have r := gm_ hg HB.out; have G := r; replace HB := hs_ HB hb; clear hb i hg) | ((with_reducible refine gate_dst (N := 20) rfl ?_); refine Kd.R_lit k68 _ 68 ?hg (N := 20) ?hd (xs := ([] : List (S68))) (inner := []) (ok := fun _ => True) (okp := fun _ => True) ?hr ?hp (fun _ hk => hk) trivial (Below.refl _ _) (Nat.le_refl _) (by simp) ?_; (case hd => rfl); (case hg => rfl); (case hr => first | (go_simp; done) | (go_simp; rfl)); (case hp => exact (Reps.none _ _)); intro ac bA B hb M y; clear M y; (first | rw [← u.out] at B | (simp only [Int.reduceToNat] at B; rw [← u.out] at B)); have j := mk_ (Kd.R_lower B (below_size (at_ HB.out))); replace a := mk_ (blk_at a.out hb); replace HB := ht_ HB hb; clear hb B; obtain ⟨P, T, aB⟩ := Kd.R_slice j.out; subst aB) | ((with_reducible refine gate_callee (f := 49) rfl ?_); refine gc_ 49 (some 21) Tryd.func49 #[.string v, .int .i64 0, .slice P m.length T] ?_; (with_reducible refine (spec_l11Read.calls k v 0 (fun k_ => some k_ = (.slice P m.length T : Value).ownBlock) (.slice P m.length T) m s t O w _ ?side1 ?side2 A8.out).mono ?_); (case side1 => exact at_ HB.out); (case side2 => exact Kd.R_tight rfl j.out); rintro e bB ⟨ad, rfl, A, hb, hkp⟩; refine ⟨_, rfl, ?_⟩; replace a := mk_ (blk_kept (bk_ a.out) hkp (fun hs_ => (fun e_ => (Kd.R_ne j.out a.out (by decide)) e_) hs_)); have d := mk_ (Kd.R_mono (ok' := fun k_ => True) A (fun k_ hk_ => trivial)); replace HB := mk_ (hb); (try clear j); (try clear hb); (try clear hkp); (try clear A); obtain ⟨bv, bw, aC⟩ := Kd.R_slice d.out; subst aC) | ((with_reducible refine gate_dst (N := 13) rfl ?_); refine gx_ 13 #[.int .i64 0, .slice none 0 0] 27 ?_; intro K hg bC i hb; have l := mk_ (i); have z := gw_ hg HB.out; have aa := z; replace HB := ht_ HB hb; have b := nl_ hg a.out; have p := ng_ hg a.out; replace a := mk_ (blk_at a.out hb); (try clear d); clear hb i hg; have bn := p.out; have bo := b.out; obtain ⟨aI, aJ, aK, aL⟩ := b2_ l; obtain ⟨aM, aN, aO, aP⟩ := b2_ a))
  refine bodyPost_ret (results_ct rfl _ _ q 27 #[.int .i64 0, .slice none 0 0] (0, 0) _ rfl (by refine bs_ ?_; refine blk_put (cs := #[.int .i64 0, .slice none 0 0]) ?_ 1 _ rfl; refine bs_ ?_; refine blk_put (cs := #[.int .i64 0, .slice none 0 0]) ?_ 0 _ rfl; refine bs_ ?_; refine blk_far ?_ b.out _; refine bs_ ?_; refine blk_far ?_ b.out _; refine bs_ ?_; exact a.out) Tryd.underlying27 rfl (by kernel_rfl)) rfl ?_
  exact ⟨_, er_, by first | exact Kd.R_nil _ _ _ _ _ | exact Kd.N_nil _ _ _ _ _ | exact Kd.V_nil _ _ _ _ _ | exact Kd.Q_nil _ _ _ _ _ | exact Kd.S_nil _ _ _ _ _, at_ HB.out⟩
 revert H; refine bd_ fun J aq H => ?_
 try dsimp only at H
 revert H; refine ti_ (qfk_ fun bD af ag H => ?_) (qt_ fun af ag H => ?_)
 ·simp only [Option.some.injEq, Prod.mk.injEq] at H
  obtain ⟨rfl, rfl, rfl⟩ := H
  go_enter Tryd.func22, Tryd.ntmps22
  go_wp2_with (first | ((with_reducible refine gate_dst (N := 8) rfl ?_); refine gx_ 8 #[.int .i64 0, .slice none 0 0] 27 ?_; intro q hg bE i hb; have a := mk_ (i); have r := gm_ hg HB.out; have G := r; replace HB := hs_ HB hb; clear hb i hg) | ((with_reducible refine gate_dst (N := 20) rfl ?_); refine Kd.R_lit k68 _ 68 ?hg (N := 20) ?hd (xs := ([] : List (S68))) (inner := []) (ok := fun _ => True) (okp := fun _ => True) ?hr ?hp (fun _ hk => hk) trivial (Below.refl _ _) (Nat.le_refl _) (by simp) ?_; (case hd => rfl); (case hg => rfl); (case hr => first | (go_simp; done) | (go_simp; rfl)); (case hp => exact (Reps.none _ _)); intro ac bF D hb M y; clear M y; (first | rw [← u.out] at D | (simp only [Int.reduceToNat] at D; rw [← u.out] at D)); have j := mk_ (Kd.R_lower D (below_size (at_ HB.out))); replace a := mk_ (blk_at a.out hb); replace HB := ht_ HB hb; clear hb D; obtain ⟨U, W, aD⟩ := Kd.R_slice j.out; subst aD) | ((with_reducible refine gate_callee (f := 49) rfl ?_); refine gc_ 49 (some 21) Tryd.func49 #[.string v, .int .i64 0, .slice U m.length W] ?_; (with_reducible refine (spec_l11Read.calls k v 0 (fun k_ => some k_ = (.slice U m.length W : Value).ownBlock) (.slice U m.length W) m s t O w _ ?side1 ?side2 A8.out).mono ?_); (case side1 => exact at_ HB.out); (case side2 => exact Kd.R_tight rfl j.out); rintro e bG ⟨ad, rfl, A, hb, hkp⟩; refine ⟨_, rfl, ?_⟩; replace a := mk_ (blk_kept (bk_ a.out) hkp (fun hs_ => (fun e_ => (Kd.R_ne j.out a.out (by decide)) e_) hs_)); have d := mk_ (Kd.R_mono (ok' := fun k_ => True) A (fun k_ hk_ => trivial)); replace HB := mk_ (hb); (try clear j); (try clear hb); (try clear hkp); (try clear A); obtain ⟨bx, aE, aF⟩ := Kd.R_slice d.out; subst aF) | ((with_reducible refine gate_dst (N := 13) rfl ?_); refine gx_ 13 #[.int .i64 0, .slice none 0 0] 27 ?_; intro K hg bH i hb; replace d := mk_ (Kd.R_below (Kd.R_below d.out lt_) hb); have l := mk_ (i); have z := gw_ hg HB.out; have aa := z; replace HB := ht_ HB hb; have b := nl_ hg a.out; have p := ng_ hg a.out; replace a := mk_ (blk_at a.out hb); clear hb i hg; have bp := p.out; have bq := b.out; obtain ⟨aQ, aR, aS, aT⟩ := b2_ l) | (go_at_call 9; (with_reducible refine (spec_ProofText.calls k a0 _ _ l1 _ _ L t _ _ s J _ ?side1 ?side2 ?side3 ?side4 ?side5 ?side6 aq.out).mono ?_); (case side1 => exact Kd.C_below am.out (at_ HB.out)); (case side2 => exact an.out); (case side3 => exact Kd.C_below ao.out (at_ HB.out)); (case side4 => exact ap.out); (case side5 => refine (Kd.R_reads' (e := 68) (base := w.heap.size) (ok := fun k_ => True) (n := s.length) (c := aE) ?_).2.2; exact (by (with_reducible repeat (first | apply Kd.R_alloc | apply Kd.R_drewN | apply Kd.R_drew)); exact (Kd.R_mono (Kd.R_far (Kd.R_far (Kd.R_types d.out l.out (by decide)) (fun _ hk => hk.2) _) (fun _ hk => hk.2) _) (fun _ h_ => h_.1)))); (case side6 => exact (Kd.R_reads' d.out).2.1); rintro e bI ⟨rfl, hb⟩; replace a := mk_ (blk_below (g := q) (o := .cells #[.int .i64 0, .slice none 0 0] 27 (0, 0)) (by refine bs_ ?_; refine blk_far ?_ b.out _; refine bs_ ?_; refine blk_far ?_ b.out _; refine bs_ ?_; exact a.out) hb); replace HB := ht_ HB hb; (try clear d l); (try clear hb); obtain ⟨aU, aV, aW, aX⟩ := b2_ a))
  refine bodyPost_ret (results_ct rfl _ _ q 27 #[.int .i64 0, .slice none 0 0] (0, 0) _ rfl (by refine bs_ ?_; refine blk_put (cs := #[.int .i64 0, .slice none 0 0]) ?_ 1 _ rfl; refine bs_ ?_; refine blk_put (cs := #[.int .i64 0, .slice none 0 0]) ?_ 0 _ rfl; refine bs_ ?_; exact a.out) Tryd.underlying27 rfl (by kernel_rfl)) rfl ?_
  exact ⟨_, er_, by first | exact Kd.R_nil _ _ _ _ _ | exact Kd.N_nil _ _ _ _ _ | exact Kd.V_nil _ _ _ _ _ | exact Kd.Q_nil _ _ _ _ _ | exact Kd.S_nil _ _ _ _ _, at_ HB.out⟩
 simp only [Option.some.injEq, Prod.mk.injEq] at H
 obtain ⟨rfl, rfl, rfl⟩ := H
 go_enter Tryd.func22, Tryd.ntmps22
 go_wp2_with (first | ((with_reducible refine gate_dst (N := 8) rfl ?_); refine gx_ 8 #[.int .i64 0, .slice none 0 0] 27 ?_; intro q hg bJ i hb; have a := mk_ (i); have r := gm_ hg HB.out; have G := r; replace HB := hs_ HB hb; clear hb i hg) | ((with_reducible refine gate_dst (N := 20) rfl ?_); refine Kd.R_lit k68 _ 68 ?hg (N := 20) ?hd (xs := ([] : List (S68))) (inner := []) (ok := fun _ => True) (okp := fun _ => True) ?hr ?hp (fun _ hk => hk) trivial (Below.refl _ _) (Nat.le_refl _) (by simp) ?_; (case hd => rfl); (case hg => rfl); (case hr => first | (go_simp; done) | (go_simp; rfl)); (case hp => exact (Reps.none _ _)); intro ac bK E hb M y; clear M y; (first | rw [← u.out] at E | (simp only [Int.reduceToNat] at E; rw [← u.out] at E)); have j := mk_ (Kd.R_lower E (below_size (at_ HB.out))); replace a := mk_ (blk_at a.out hb); replace HB := ht_ HB hb; clear hb E; obtain ⟨X, Y, aG⟩ := Kd.R_slice j.out; subst aG) | ((with_reducible refine gate_callee (f := 49) rfl ?_); refine gc_ 49 (some 21) Tryd.func49 #[.string v, .int .i64 0, .slice X m.length Y] ?_; (with_reducible refine (spec_l11Read.calls k v 0 (fun k_ => some k_ = (.slice X m.length Y : Value).ownBlock) (.slice X m.length Y) m s t O w _ ?side1 ?side2 A8.out).mono ?_); (case side1 => exact at_ HB.out); (case side2 => exact Kd.R_tight rfl j.out); rintro e bL ⟨ad, rfl, A, hb, hkp⟩; refine ⟨_, rfl, ?_⟩; replace a := mk_ (blk_kept (bk_ a.out) hkp (fun hs_ => (fun e_ => (Kd.R_ne j.out a.out (by decide)) e_) hs_)); have d := mk_ (Kd.R_mono (ok' := fun k_ => True) A (fun k_ hk_ => trivial)); replace HB := mk_ (hb); (try clear j); (try clear hb); (try clear hkp); (try clear A); obtain ⟨ae, Z, aH⟩ := Kd.R_slice d.out; subst aH) | ((with_reducible refine gate_dst (N := 13) rfl ?_); refine gx_ 13 #[.int .i64 0, .slice none 0 0] 27 ?_; intro K hg bM i hb; replace d := mk_ (Kd.R_below (Kd.R_below d.out lt_) hb); have l := mk_ (i); have z := gw_ hg HB.out; have aa := z; replace HB := ht_ HB hb; have b := nl_ hg a.out; have p := ng_ hg a.out; replace a := mk_ (blk_at a.out hb); clear hb i hg; have br := p.out; have bs := b.out; obtain ⟨aY, aZ, a1, a2⟩ := b2_ l) | (go_at_call 9; (with_reducible refine (spec_ProofText.calls k a0 _ _ l1 _ _ L t _ _ s J _ ?side1 ?side2 ?side3 ?side4 ?side5 ?side6 aq.out).mono ?_); (case side1 => exact Kd.C_below am.out (at_ HB.out)); (case side2 => exact an.out); (case side3 => exact Kd.C_below ao.out (at_ HB.out)); (case side4 => exact ap.out); (case side5 => refine (Kd.R_reads' (e := 68) (base := w.heap.size) (ok := fun k_ => True) (n := s.length) (c := Z) ?_).2.2; exact (by (with_reducible repeat (first | apply Kd.R_alloc | apply Kd.R_drewN | apply Kd.R_drew)); exact (Kd.R_mono (Kd.R_far (Kd.R_far (Kd.R_types d.out l.out (by decide)) (fun _ hk => hk.2) _) (fun _ hk => hk.2) _) (fun _ h_ => h_.1)))); (case side6 => exact (Kd.R_reads' d.out).2.1); rintro e bN ⟨rfl, hb⟩; replace d := mk_ (Kd.R_below (by (with_reducible repeat (first | apply Kd.R_alloc | apply Kd.R_drewN | apply Kd.R_drew)); exact (Kd.R_mono (Kd.R_far (Kd.R_far (Kd.R_types d.out l.out (by decide)) (fun _ hk => hk.2) _) (fun _ hk => hk.2) _) (fun _ h_ => h_.1))) hb); replace a := mk_ (blk_below (g := q) (o := .cells #[.int .i64 0, .slice none 0 0] 27 (0, 0)) (by refine bs_ ?_; refine blk_far ?_ b.out _; refine bs_ ?_; refine blk_far ?_ b.out _; refine bs_ ?_; exact a.out) hb); replace l := mk_ (blk_below (g := K) (o := .cells #[.int .i64 t, .slice ae s.length Z] 27 (0, 0)) (by refine bs_ ?_; refine blk_put (cs := #[.int .i64 t, .slice none 0 0]) ?_ 1 _ rfl; refine bs_ ?_; refine blk_put (cs := #[.int .i64 0, .slice none 0 0]) ?_ 0 _ rfl; refine bs_ ?_; exact l.out) hb); replace HB := ht_ HB hb; (try clear hb); obtain ⟨a4, a5, a6, a7⟩ := b2_ l; obtain ⟨a8, a9, ba, bb⟩ := b2_ a))
 refine bodyPost_ret (results_ct rfl _ _ q 27 #[.int .i64 t, .slice ae s.length Z] (0, 0) _ rfl (by refine bs_ ?_; refine blk_put (cs := #[.int .i64 t, .slice none 0 0]) ?_ 1 _ rfl; refine bs_ ?_; refine blk_put (cs := #[.int .i64 0, .slice none 0 0]) ?_ 0 _ rfl; refine bs_ ?_; exact a.out) Tryd.underlying27 rfl (by kernel_rfl)) rfl ?_
 exact ⟨_, er_, by (with_reducible repeat (first | apply Kd.R_alloc | apply Kd.R_drewN | apply Kd.R_drew)); exact Kd.R_mono (Kd.R_far (Kd.R_far (Kd.R_types d.out a.out (by decide)) (fun _ hk => hk.2) _) (fun _ hk => hk.2) _) (fun _ hk => trivial), at_ HB.out⟩
end Go.Proofs.YtcaogllnbpmcgaaDoor.P

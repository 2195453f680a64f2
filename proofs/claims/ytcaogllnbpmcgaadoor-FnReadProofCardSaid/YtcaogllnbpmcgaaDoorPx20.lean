/- Go's functions come to just the answers of the Lean functions told here. -/
import Derived.Test.YtcaogllnbpmcgaaDoorPx19
set_option maxHeartbeats 8000000
set_option maxRecDepth 100000
namespace Go.Proofs.YtcaogllnbpmcgaaDoor.P
open Go.RowKit Go.Proofs.YtcaogllnbpmcgaaDoorW.PrintWords Go.Proofs.YtcaogllnbpmcgaaDoorW.PrintLast Go.Proofs.YtcaogllnbpmcgaaDoorW.PrintMore
attribute [local go_sem] max2_int min2_int max_two min_two max_three min_three max_four min_four
set_option linter.unusedVariables false
set_option linter.unusedSimpArgs false
mutual
def spec_l11Checks.j0 : Nat → Int → List (S79) → List (S82) → Int → List Int → Bool → Int → List (S68) → Int → Int → Int → Option (Int × Bool)
 | 0, _, _, _, _, _, _, _, _, _, _, _ => none
 | k + 1, x0, x1, x2, x4, x5, x54, x231000, x231001, x234000, x234001, x234002 => if x54 = true then (some (0, false)) else (spec_l11Checks.l0 k x0 x1 x2 x4 x5 1 0 x231000 x231001 x234000 x234001 x234002)
def spec_l11Checks.l0 : Nat → Int → List (S79) → List (S82) → Int → List Int → Int → Int → Int → List (S68) → Int → Int → Int → Option (Int × Bool)
 | 0, _, _, _, _, _, _, _, _, _, _, _, _ => none
 | k + 1, x0, x1, x2, x4, x5, x15, x16, x231000, x231001, x234000, x234001, x234002 => if x16 < 2 then (if x16 = 1 then (spec_l11Checks.j2 k x0 x1 x2 x4 x5 x15 x16 x234002 x231000 x231001 x234000 x234001 x234002) else (spec_l11Checks.j2 k x0 x1 x2 x4 x5 x15 x16 x234001 x231000 x231001 x234000 x234001 x234002)) else (some (x15, true))
def spec_l11Checks.j2 : Nat → Int → List (S79) → List (S82) → Int → List Int → Int → Int → Int → Int → List (S68) → Int → Int → Int → Option (Int × Bool)
 | 0, _, _, _, _, _, _, _, _, _, _, _, _, _ => none
 | k + 1, x0, x1, x2, x4, x5, x15, x16, x17, x231000, x231001, x234000, x234001, x234002 => if x17 ≥ 0 then (if x17 ≤ x4 then (spec_l11Checks.j3 k x0 x1 x2 x4 x5 x15 x16 x17 true x231000 x231001 x234000 x234001 x234002) else (spec_l11Checks.j3 k x0 x1 x2 x4 x5 x15 x16 x17 (decide (x17 ≥ (x231001.length : Int))) x231000 x231001 x234000 x234001 x234002)) else (spec_l11Checks.j3 k x0 x1 x2 x4 x5 x15 x16 x17 false x231000 x231001 x234000 x234001 x234002)
def spec_l11Checks.j3 : Nat → Int → List (S79) → List (S82) → Int → List Int → Int → Int → Int → Bool → Int → List (S68) → Int → Int → Int → Option (Int × Bool)
 | 0, _, _, _, _, _, _, _, _, _, _, _, _, _, _ => none
 | k + 1, x0, x1, x2, x4, x5, x15, x16, x17, x78, x231000, x231001, x234000, x234001, x234002 => if x78 = true then (some (0, false)) else ((some (([] : List Int) : List Int)).bind fun y236 => (if y236.length + x5.length < 17592186044416 then ((some (y236 ++ x5 : List Int)).bind fun y239 => (if 0 ≤ x234000 then (if x234000 < (y239.length : Int) then ((spec_l11Checks.f k x0 x1 x2 x231000 x231001 x17 (y239.set (x234000 : Int).toNat x16)).bind fun bt243 => (if bt243.2 = true then (spec_l11Checks.l0 k x0 x1 x2 x4 x5 (wrap64 (x15 + bt243.1)) (wrap64 (x16 + 1)) x231000 x231001 x234000 x234001 x234002) else (some (0, false)))) else (none)) else (none))) else (none)))
def spec_l11Checks.f : Nat → Int → List (S79) → List (S82) → Int → List (S68) → Int → List Int → Option (Int × Bool)
 | 0, _, _, _, _, _, _, _ => none
 | k + 1, a0, l1, l2, a3_0, l3_1, a4, l5 => if a4 < 0 then (if a4 ≥ (wrap64 ((-2) - (l1.length : Int))) then ((spec_l11Closes.f k a0 l1 l2 a4 l5).bind fun t231 => (some (0, t231))) else (some (0, false))) else (if 0 ≤ a4 then (if a4 < (l3_1.length : Int) then ((spec_l1In.f ((rd_T68 l3_1 a4).f0) 0 (wrap64 (a0 - 1))).bind fun t234 => (if t234 = true then (if 0 ≤ ((rd_T68 l3_1 a4).f0) then (if ((rd_T68 l3_1 a4).f0) < (l5.length : Int) then (spec_l11Checks.j0 k a0 l1 l2 a4 l5 (decide ((rd l5 ((rd_T68 l3_1 a4).f0)) ≥ 0)) a3_0 l3_1 ((rd_T68 l3_1 a4).f0) ((rd_T68 l3_1 a4).f1) ((rd_T68 l3_1 a4).f2)) else (none)) else (none)) else (spec_l11Checks.j0 k a0 l1 l2 a4 l5 true a3_0 l3_1 ((rd_T68 l3_1 a4).f0) ((rd_T68 l3_1 a4).f1) ((rd_T68 l3_1 a4).f2)))) else (none)) else (none))
end
theorem spec_l11Checks.calls (k : Nat) : ∀ (G : Int) (A1 : Option Addr) (c1 : Nat) (l1 : List (S79)) (A2 : Option Addr) (c2 : Nat) (L : List (S82)) (m : Int) (ax : Option Addr) (s : Nat) (a : List (S68)) (d : Int) (A5 : Option Addr) (c5 : Nat) (D : List Int) (r1 : Int) (r2 : Bool) (w : World) (bH : Kd.C k79 w A1 l1.length l1) (bI : l1.length ≤ c1) (bJ : Kd.C k82 w A2 L.length L) (bK : L.length ≤ c2) (a8 : Kd.C k68 w ax a.length a) (a9 : a.length ≤ s) (bL : Kd.C (Kd.int .i64) w A5 D.length D) (bM : D.length ≤ c5) (h : spec_l11Checks.f k G l1 L m a d D = some (r1, r2)),
  Calls Tryd.prog 59 #[.int .i64 G, .slice A1 l1.length c1, .slice A2 L.length c2, .agg #[.int .i64 m, .slice ax a.length s], .int .i64 d, .slice A5 D.length c5] w fun e w' => e = .returned (.tuple #[.int .i64 r1, .bool r2]) ∧ Below w.heap.size w w' := by
 induction k using Nat.strongRecOn with
 | _ k ih =>
 intro G A1 c1 l1 A2 c2 L m ax s a d A5 c5 D r1 r2 w bH bI bJ bK a8 a9 bL bM h
 cases k with
 | zero => exact absurd h (by simp [spec_l11Checks.f])
 | succ k =>
 simp only [spec_l11Checks.f] at h
 have c0 := Tryd.underlying27
 have da := Tryd.underlying68
 have b5 := mk_ bH
 have b6 := mk_ bI
 clear bH bI
 have b7 := mk_ bJ
 have b8 := mk_ bK
 clear bJ bK
 have bx := mk_ a8
 have b0 := mk_ a9
 clear a8 a9
 have bN := mk_ bL
 have cx := mk_ bM
 clear bL bM
 have HB := mk_ (Below.refl w.heap.size w)
 have H : (if d < 0 then (if d ≥ (wrap64 ((-2) - (l1.length : Int))) then ((spec_l11Closes.f k G l1 L d D).bind fun ba => (some (0, ba))) else (some (0, false))) else (if 0 ≤ d then (if d < (a.length : Int) then ((spec_l1In.f ((rd_T68 a d).f0) 0 (wrap64 (G - 1))).bind fun bO => (if bO = true then (if 0 ≤ ((rd_T68 a d).f0) then (if ((rd_T68 a d).f0) < (D.length : Int) then (spec_l11Checks.j0 k G l1 L d D (decide ((rd D ((rd_T68 a d).f0)) ≥ 0)) m a ((rd_T68 a d).f0) ((rd_T68 a d).f1) ((rd_T68 a d).f2)) else (none)) else (none)) else (spec_l11Checks.j0 k G l1 L d D true m a ((rd_T68 a d).f0) ((rd_T68 a d).f1) ((rd_T68 a d).f2)))) else (none)) else (none))) = some (r1, r2) := h
 clear h
 revert H; refine it_ (dt_ fun aJ H => ?_) (df_ fun aJ H => ?_)
 ·revert H; refine ti_ (df_ fun (c8b0 : decide ((wrap64 ((-2) - (l1.length : Int))) ≤ d) = false) H => ?_) (dt_ fun (c8b0 : decide ((wrap64 ((-2) - (l1.length : Int))) ≤ d) = true) H => ?_)
  ·simp only [Option.some.injEq, Prod.mk.injEq] at H
   obtain ⟨rfl, rfl⟩ := H
   go_enter Tryd.func59, Tryd.ntmps59
   go_wp2_with (first | ((with_reducible refine gate_dst (N := 9) rfl ?_); (try (refine gate_guard (by rfl) ?_; dsimp only)); refine bx_ 9 #[.int .i64 m, .slice ax a.length s] 27 ?_; intro x hg dh I hb; have aw := gm_ hg HB.out; have bz := aw; replace HB := hs_ HB hb; clear hb I hg))
   go_ret2
   exact ⟨er_, at_ HB.out⟩
  replace H := Option.bind_eq_some_iff.mp H
  obtain ⟨ba, b9, H⟩ := H
  replace H : (some (0, ba)) = some (r1, r2) := H
  have A9 := mk_ b9
  clear b9
  simp only [Option.some.injEq, Prod.mk.injEq] at H
  obtain ⟨rfl, rfl⟩ := H
  go_enter Tryd.func59, Tryd.ntmps59
  go_wp2_with (first | ((with_reducible refine gate_dst (N := 9) rfl ?_); (try (refine gate_guard (by rfl) ?_; dsimp only)); refine bx_ 9 #[.int .i64 m, .slice ax a.length s] 27 ?_; intro x hg di I hb; have aw := gm_ hg HB.out; have bz := aw; replace HB := hs_ HB hb; clear hb I hg) | (go_at_call 81; (with_reducible refine (spec_l11Closes.calls k G _ _ l1 _ _ L d _ _ D ba _ ?side1 ?side2 ?side3 ?side4 ?side5 ?side6 A9.out).mono ?_); (case side1 => exact Kd.C_below (Kd.C_below b5.out HB.out) lt_); (case side2 => exact b6.out); (case side3 => exact Kd.C_below (Kd.C_below b7.out HB.out) lt_); (case side4 => exact b8.out); (case side5 => exact Kd.C_below (Kd.C_below bN.out HB.out) lt_); (case side6 => exact cx.out); rintro e dj ⟨rfl, hb⟩; replace HB := ht_ HB hb; (try clear i); (try clear hb)))
  go_ret2
  exact ⟨er_, at_ HB.out⟩
 revert H; refine g_ (dt_ fun aA => g_ (dt_ fun aC H => ?_))
 have br := mk_ H
 clear H
 go_enter Tryd.func59, Tryd.ntmps59
 go_upto_region 4 with (first | ((with_reducible refine gate_dst (N := 9) rfl ?_); (try (refine gate_guard (by rfl) ?_; dsimp only)); refine bx_ 9 #[.int .i64 m, .slice ax a.length s] 27 ?_; intro x hg dk I hb; have i := mk_ (I); have aw := gm_ hg HB.out; have bz := aw; replace HB := hs_ HB hb; clear hb I hg; obtain ⟨P, T, U, W⟩ := b2_ i; obtain ⟨E, cf, z, A, B⟩ := at_T68 bx.out d oa_ oa_; cases cf; replace z := cel HB.out z; replace A := cel HB.out A; replace B := cel HB.out B; obtain ⟨bb, bc⟩ := pq_ (d : Int) (a.length : Int)) | ((with_reducible refine gate_dst (N := 14) rfl ?_); (try (refine gate_guard (by rfl) ?_; dsimp only)); refine bx_ 14 #[.int .i64 0, .int .i64 0, .int .i64 0] 68 ?_; intro n hg dl I hb; have c := mk_ (I); have aD := gw_ hg HB.out; have cH := aD; replace HB := ht_ HB hb; have j := nl_ hg i.out; have q := ng_ hg i.out; replace i := mk_ (blk_at i.out hb); clear hb I hg; have cI := q.out; have cJ := j.out; obtain ⟨X, Y, Z, aa, ab, ac⟩ := b3_ c))
 (try simp only [Act.put, z0_, z1_, z2_])
 go_cut [54] (fun cy wc => ∃ (kq : Nat) (aK : Bool), cy = .bool aK ∧ Aside0 (spec_l11Checks.j0 kq G l1 L d D aK m a ((rd_T68 a d).f0) ((rd_T68 a d).f1) ((rd_T68 a d).f2) = some (r1, r2)) ∧ Aside0 (kq ≤ k) ∧ Aside0 (wc.heap[x]? = some (.cells #[.int .i64 m, (.slice (some E) a.length s)] 27 (0, 0))) ∧ Aside0 (wc.heap[n]? = some (.cells #[.int .i64 ((rd_T68 a d).f0), .int .i64 ((rd_T68 a d).f1), .int .i64 ((rd_T68 a d).f2)] 68 (0, 0))) ∧ Aside0 (Below w.heap.size w wc))
 case first =>
  have H := br.out
  clear br
  revert H; refine bd_ fun bO ca H => ?_
  try dsimp only at H
  revert H; refine bi_ ?_ ?_ <;> rintro rfl H
  ·have H' := mk_ H
   clear H
   have cK := q.out
   have cL := j.out
   obtain ⟨ad, ae, af, ag, ah, ai⟩ := b3_ c
   go_wp2_with (first | (refine gc_ 80 (some 45) Tryd.func80 #[.int .i64 ((rd_T68 a d).f0), .int .i64 0, .int .i64 (wrap64 (G - 1))] ?_; (with_reducible refine (spec_l1In.calls ((rd_T68 a d).f0) 0 (wrap64 (G - 1)) false _ ca.out).mono ?_); rintro e w' ⟨rfl, ⟨nd, rfl⟩⟩; refine ⟨_, rfl, ?_⟩))
   go_meet
   case rel => exact ⟨_, (true), sm_, H', ⟨by first | omega | exact Nat.le_refl _⟩, ⟨by refine bs_ ?_; refine blk_far ?_ j.out _; refine bs_ ?_; refine blk_far ?_ j.out _; refine bs_ ?_; refine blk_far ?_ j.out _; refine bs_ ?_; exact i.out⟩, ⟨by refine bs_ ?_; refine blk_put (cs := #[.int .i64 ((rd_T68 a d).f0), .int .i64 ((rd_T68 a d).f1), .int .i64 0]) ?_ 2 _ rfl; refine bs_ ?_; refine blk_put (cs := #[.int .i64 ((rd_T68 a d).f0), .int .i64 0, .int .i64 0]) ?_ 1 _ rfl; refine bs_ ?_; refine blk_put (cs := #[.int .i64 0, .int .i64 0, .int .i64 0]) ?_ 0 _ rfl; refine bs_ ?_; exact c.out⟩, ⟨at_ HB.out⟩⟩
  revert H; refine g_ (dt_ fun aj H => ?_)
  (first | rw [aj] | (simp only [i64_w, i32_w]; rw [aj]) | skip)
  revert H; refine g_ (dt_ fun aE H => ?_)
  have H' := mk_ H
  clear H
  have cM := q.out
  have cN := j.out
  obtain ⟨ak, al, am, an, ao, ap⟩ := b3_ c
  go_wp2_with (first | (refine gc_ 80 (some 45) Tryd.func80 #[.int .i64 ((rd_T68 a d).f0), .int .i64 0, .int .i64 (wrap64 (G - 1))] ?_; (with_reducible refine (spec_l1In.calls ((rd_T68 a d).f0) 0 (wrap64 (G - 1)) true _ ca.out).mono ?_); rintro e w' ⟨rfl, ⟨nd, rfl⟩⟩; refine ⟨_, rfl, ?_⟩; obtain ⟨be, cg, l⟩ := Kd.at_int bN.out ((rd_T68 a d).f0) oa_ oa_; cases cg; have aq : be.block ≠ n := Nat.ne_of_lt (Nat.lt_of_lt_of_le (by have := World.block_lt_of_cell? _ _ l; first | rwa [add_block] at this | exact this) aD.out); have ar : be.block ≠ n := Nat.ne_of_lt (Nat.lt_of_lt_of_le (by have := World.block_lt_of_cell? _ _ l; first | rwa [add_block] at this | exact this) aD.out); have au : be.block ≠ n := Nat.ne_of_lt (Nat.lt_of_lt_of_le (by have := World.block_lt_of_cell? _ _ l; first | rwa [add_block] at this | exact this) aD.out); replace l := cel HB.out l; replace l := (cell_far (p := ⟨n, 0, none⟩) (by first | (rw [add_block]; exact aq) | (show (Addr.add _ _).block ≠ _; rw [add_block]; exact aq) | exact aq) (.int .i64 ((rd_T68 a d).f0))).trans l; replace l := (cell_far (p := ⟨n, 1, none⟩) (by first | (rw [add_block]; exact ar) | (show (Addr.add _ _).block ≠ _; rw [add_block]; exact ar) | exact ar) (.int .i64 ((rd_T68 a d).f1))).trans l; replace l := (cell_far (p := ⟨n, 2, none⟩) (by first | (rw [add_block]; exact au) | (show (Addr.add _ _).block ≠ _; rw [add_block]; exact au) | exact au) (.int .i64 ((rd_T68 a d).f2))).trans l; clear aq; clear ar; clear au; obtain ⟨bf, bg⟩ := pq_ (((rd_T68 a d).f0) : Int) (D.length : Int)))
  go_meet
  case rel => exact ⟨_, (decide ((rd D ((rd_T68 a d).f0)) ≥ 0)), sm_, H', ⟨by first | omega | exact Nat.le_refl _⟩, ⟨by refine bs_ ?_; refine blk_far ?_ j.out _; refine bs_ ?_; refine blk_far ?_ j.out _; refine bs_ ?_; refine blk_far ?_ j.out _; refine bs_ ?_; exact i.out⟩, ⟨by refine bs_ ?_; refine blk_put (cs := #[.int .i64 ((rd_T68 a d).f0), .int .i64 ((rd_T68 a d).f1), .int .i64 0]) ?_ 2 _ rfl; refine bs_ ?_; refine blk_put (cs := #[.int .i64 ((rd_T68 a d).f0), .int .i64 0, .int .i64 0]) ?_ 1 _ rfl; refine bs_ ?_; refine blk_put (cs := #[.int .i64 0, .int .i64 0, .int .i64 0]) ?_ 0 _ rfl; refine bs_ ?_; exact c.out⟩, ⟨at_ HB.out⟩⟩
 clear br
 try clear c1
 try clear c2
 try clear c5
 try clear aJ
 try clear c8b0
 try clear aA
 try clear aC
 try clear aj
 try clear aE
 try clear P
 try clear T
 try clear X
 try clear Y
 try clear Z
 try clear ak
 try clear al
 try clear am
 try clear ad
 try clear ae
 try clear af
 try clear U
 try clear W
 try clear aa
 try clear ab
 try clear ac
 try clear an
 try clear ao
 try clear ap
 try clear ag
 try clear ah
 try clear ai
 try clear z
 try clear A
 try clear B
 try clear l
 try clear bb
 try clear bf
 try clear bc
 try clear bg
 obtain ⟨kq, aK, rfl, HA, M, i, c, HB⟩ := hcut
 cases kq with
 | zero => exact absurd HA.out (by simp [spec_l11Checks.j0])
 | succ bP =>
  have H := HA.out
  clear HA
  simp only [spec_l11Checks.j0] at H
  revert H; refine ib_ ?_ ?_ <;> rintro rfl H
  ·simp only [Option.some.injEq, Prod.mk.injEq] at H
   obtain ⟨rfl, rfl⟩ := H
   go_wp2
   go_ret2
   exact ⟨er_, at_ HB.out⟩
  have H' := mk_ H
  clear H
  go_wp2
  go_loopg [15, 16] bP (fun kq cz cA w' => ∃ (J : Int) (u : Int), cz = .int .i64 J ∧ cA = .int .i64 u ∧ Aside0 (spec_l11Checks.l0 kq G l1 L d D J u m a ((rd_T68 a d).f0) ((rd_T68 a d).f1) ((rd_T68 a d).f2) = some (r1, r2)) ∧ Aside0 (kq ≤ bP) ∧ Aside0 (w'.heap[x]? = some (.cells #[.int .i64 m, (.slice (some E) a.length s)] 27 (0, 0))) ∧ Aside0 (w'.heap[n]? = some (.cells #[.int .i64 ((rd_T68 a d).f0), .int .i64 ((rd_T68 a d).f1), .int .i64 ((rd_T68 a d).f2)] 68 (0, 0))) ∧ Aside0 (Below w.heap.size w w'))
  case atStart => exact ⟨(1), (0), sm_, sm_, H', ⟨Nat.le_refl _⟩, ⟨by refine bs_ ?_; exact i.out⟩, ⟨by refine bs_ ?_; exact c.out⟩, ⟨at_ HB.out⟩⟩
  clear H'
  try clear c1
  try clear c2
  try clear c5
  try clear aJ
  try clear c8b0
  try clear aA
  try clear aC
  try clear aj
  try clear aE
  try clear P
  try clear T
  try clear X
  try clear Y
  try clear Z
  try clear ak
  try clear al
  try clear am
  try clear ad
  try clear ae
  try clear af
  try clear U
  try clear W
  try clear aa
  try clear ab
  try clear ac
  try clear an
  try clear ao
  try clear ap
  try clear ag
  try clear ah
  try clear ai
  try clear z
  try clear A
  try clear B
  try clear l
  try clear bb
  try clear bf
  try clear bc
  try clear bg
  obtain ⟨J, u, rfl, rfl, HA, az, i, c, HB⟩ := hrel
  cases gk with
  | zero => exact absurd HA.out (by simp [spec_l11Checks.l0])
  | succ k2 =>
   have H := HA.out
   clear HA
   simp only [spec_l11Checks.l0] at H
   revert H; refine ti_ (df_ fun bh H => ?_) (dt_ fun bh H => ?_)
   ·simp only [Option.some.injEq, Prod.mk.injEq] at H
    obtain ⟨rfl, rfl⟩ := H
    go_wp2
    go_ret2
    exact ⟨er_, at_ HB.out⟩
   have bs := mk_ H
   clear H
   have cO := q.out
   have cP := j.out
   have aU : wr.cell? ⟨n, 0, none⟩ = some (.int .i64 ((rd_T68 a d).f0)) := (blk_cell c.out 0).trans rfl
   have aV : wr.cell? ⟨n, 1, none⟩ = some (.int .i64 ((rd_T68 a d).f1)) := (blk_cell c.out 1).trans rfl
   have aW : wr.cell? ⟨n, 2, none⟩ = some (.int .i64 ((rd_T68 a d).f2)) := (blk_cell c.out 2).trans rfl
   have aX := blk_frozen c.out 0
   have aY := blk_frozen c.out 1
   have aZ := blk_frozen c.out 2
   go_upto_if 62 with (fail)
   go_cut [17] (fun cB wc => ∃ (kq : Nat) (y : Int), cB = .int .i64 y ∧ Aside0 (spec_l11Checks.j2 kq G l1 L d D J u y m a ((rd_T68 a d).f0) ((rd_T68 a d).f1) ((rd_T68 a d).f2) = some (r1, r2)) ∧ Aside0 (kq ≤ k2) ∧ Aside0 (wc.heap[x]? = some (.cells #[.int .i64 m, (.slice (some E) a.length s)] 27 (0, 0))) ∧ Aside0 (wc.heap[n]? = some (.cells #[.int .i64 ((rd_T68 a d).f0), .int .i64 ((rd_T68 a d).f1), .int .i64 ((rd_T68 a d).f2)] 68 (0, 0))) ∧ Aside0 (Below w.heap.size w wc))
   case first =>
    have H := bs.out
    clear bs
    revert H; refine ti_ (qfk_ fun cb K bj H => ?_) (qt_ fun K bj H => ?_)
    ·(first | rw [K] | (simp only [i64_w, i32_w]; rw [K]) | skip)
     have H' := mk_ H
     clear H
     go_wp2
     go_meet
     case rel => exact ⟨_, (((rd_T68 a d).f1)), sm_, H', ⟨by have := M.out; have := az.out; first | omega | exact Nat.le_refl _⟩, ⟨by refine bs_ ?_; exact i.out⟩, ⟨by refine bs_ ?_; exact c.out⟩, ⟨at_ HB.out⟩⟩
    (first | rw [K] | (simp only [i64_w, i32_w]; rw [K]) | skip)
    have H' := mk_ H
    clear H
    have cQ := q.out
    have cR := j.out
    have a1 : wr.cell? ⟨n, 0, none⟩ = some (.int .i64 ((rd_T68 a d).f0)) := (blk_cell c.out 0).trans rfl
    have a2 : wr.cell? ⟨n, 1, none⟩ = some (.int .i64 ((rd_T68 a d).f1)) := (blk_cell c.out 1).trans rfl
    have a3 : wr.cell? ⟨n, 2, none⟩ = some (.int .i64 ((rd_T68 a d).f2)) := (blk_cell c.out 2).trans rfl
    have a5 := blk_frozen c.out 0
    have a6 := blk_frozen c.out 1
    have a7 := blk_frozen c.out 2
    go_wp2
    go_meet
    case rel => exact ⟨_, (((rd_T68 a d).f2)), sm_, H', ⟨by have := M.out; have := az.out; first | omega | exact Nat.le_refl _⟩, ⟨by refine bs_ ?_; exact i.out⟩, ⟨by refine bs_ ?_; exact c.out⟩, ⟨at_ HB.out⟩⟩
   clear bs
   try clear c1
   try clear c2
   try clear c5
   try clear aJ
   try clear c8b0
   try clear aA
   try clear aC
   try clear aj
   try clear aE
   try clear bh
   try clear cb
   try clear K
   try clear bj
   try clear P
   try clear T
   try clear X
   try clear Y
   try clear Z
   try clear ak
   try clear al
   try clear am
   try clear ad
   try clear ae
   try clear af
   try clear aU
   try clear aV
   try clear aW
   try clear a1
   try clear a2
   try clear a3
   try clear U
   try clear W
   try clear aa
   try clear ab
   try clear ac
   try clear an
   try clear ao
   try clear ap
   try clear ag
   try clear ah
   try clear ai
   try clear aX
   try clear aY
   try clear aZ
   try clear a5
   try clear a6
   try clear a7
   try clear z
   try clear A
   try clear B
   try clear l
   try clear bb
   try clear bf
   try clear bc
   try clear bg
   obtain ⟨kq, y, rfl, HA, ay, i, c, HB⟩ := hcut
   cases kq with
   | zero => exact absurd HA.out (by simp [spec_l11Checks.j2])
   | succ ch =>
    have H := HA.out
    clear HA
    simp only [spec_l11Checks.j2] at H
    have bu := mk_ H
    clear H
    go_upto_region 13 with (fail)
    go_cut [78] (fun cC wc => ∃ (kq : Nat) (aM : Bool), cC = .bool aM ∧ Aside0 (spec_l11Checks.j3 kq G l1 L d D J u y aM m a ((rd_T68 a d).f0) ((rd_T68 a d).f1) ((rd_T68 a d).f2) = some (r1, r2)) ∧ Aside0 (kq ≤ ch) ∧ Aside0 (wc.heap[x]? = some (.cells #[.int .i64 m, (.slice (some E) a.length s)] 27 (0, 0))) ∧ Aside0 (wc.heap[n]? = some (.cells #[.int .i64 ((rd_T68 a d).f0), .int .i64 ((rd_T68 a d).f1), .int .i64 ((rd_T68 a d).f2)] 68 (0, 0))) ∧ Aside0 (Below w.heap.size w wc))
    case first =>
     have H := bu.out
     clear bu
     revert H; refine ti_ (df_e fun av H => ?_) (dt_e fun av H => ?_)
     ·(first | rw [av] | (simp only [i64_w, i32_w]; rw [av]) | skip)
      have H' := mk_ H
      clear H
      go_wp2
      go_meet
      case rel => exact ⟨_, (false), sm_, H', ⟨by have := M.out; have := az.out; have := ay.out; first | omega | exact Nat.le_refl _⟩, ⟨by refine bs_ ?_; exact i.out⟩, ⟨by refine bs_ ?_; exact c.out⟩, ⟨at_ HB.out⟩⟩
     (first | rw [av] | (simp only [i64_w, i32_w]; rw [av]) | skip)
     revert H; refine it_ (dt_ fun bA H => ?_) (df_ fun bA H => ?_)
     ·have H' := mk_ H
      clear H
      go_wp2
      go_meet
      case rel => exact ⟨_, (true), sm_, H', ⟨by have := M.out; have := az.out; have := ay.out; first | omega | exact Nat.le_refl _⟩, ⟨by refine bs_ ?_; exact i.out⟩, ⟨by refine bs_ ?_; exact c.out⟩, ⟨at_ HB.out⟩⟩
     have H' := mk_ H
     clear H
     have cS := j.out
     have cT := q.out
     have bD : wc.cell? ⟨x, 0, none⟩ = some (.int .i64 m) := (blk_cell i.out 0).trans rfl
     have bE : wc.cell? ⟨x, 1, none⟩ = some (.slice (some E) a.length s) := (blk_cell i.out 1).trans rfl
     have bF := blk_frozen i.out 0
     have bG := blk_frozen i.out 1
     go_wp2
     go_meet
     case rel => exact ⟨_, (decide (y ≥ (a.length : Int))), sm_, H', ⟨by have := M.out; have := az.out; have := ay.out; first | omega | exact Nat.le_refl _⟩, ⟨by refine bs_ ?_; exact i.out⟩, ⟨by refine bs_ ?_; exact c.out⟩, ⟨at_ HB.out⟩⟩
    clear bu
    try clear c1
    try clear c2
    try clear c5
    try clear aJ
    try clear c8b0
    try clear aA
    try clear aC
    try clear aj
    try clear aE
    try clear bh
    try clear cb
    try clear K
    try clear bj
    try clear av
    try clear bA
    try clear P
    try clear T
    try clear X
    try clear Y
    try clear Z
    try clear ak
    try clear al
    try clear am
    try clear ad
    try clear ae
    try clear af
    try clear aU
    try clear aV
    try clear aW
    try clear a1
    try clear a2
    try clear a3
    try clear bD
    try clear bE
    try clear U
    try clear W
    try clear aa
    try clear ab
    try clear ac
    try clear an
    try clear ao
    try clear ap
    try clear ag
    try clear ah
    try clear ai
    try clear aX
    try clear aY
    try clear aZ
    try clear a5
    try clear a6
    try clear a7
    try clear bF
    try clear bG
    try clear z
    try clear A
    try clear B
    try clear l
    try clear bb
    try clear bf
    try clear bc
    try clear bg
    obtain ⟨kq, aM, rfl, HA, bv, i, c, HB⟩ := hcut
    cases kq with
    | zero => exact absurd HA.out (by simp [spec_l11Checks.j3])
    | succ bk =>
     have H := HA.out
     clear HA
     simp only [spec_l11Checks.j3] at H
     revert H; refine ib_ ?_ ?_ <;> rintro rfl H
     ·simp only [Option.some.injEq, Prod.mk.injEq] at H
      obtain ⟨rfl, rfl⟩ := H
      go_wp2
      go_ret2
      exact ⟨er_, at_ HB.out⟩
     obtain ⟨bn, bo⟩ : ∃ y_ : List Int, y_ = (([] : List Int)) := ⟨_, rfl⟩
     replace H : (if bn.length + D.length < 17592186044416 then ((some (bn ++ D : List Int)).bind fun O => (if 0 ≤ ((rd_T68 a d).f0) then (if ((rd_T68 a d).f0) < (O.length : Int) then ((spec_l11Checks.f bk G l1 L m a y (O.set (((rd_T68 a d).f0) : Int).toNat u)).bind fun bB => (if bB.2 = true then (spec_l11Checks.l0 bk G l1 L d D (wrap64 (J + bB.1)) (wrap64 (u + 1)) m a ((rd_T68 a d).f0) ((rd_T68 a d).f1) ((rd_T68 a d).f2)) else (some (0, false)))) else (none)) else (none))) else (none)) = some (r1, r2) := by first | (rw [bo]; exact H) | exact H
     have bC := mk_ bo
     clear bo
     revert H; refine g_ (mt_ fun b1 H => ?_)
     obtain ⟨O, aG⟩ : ∃ y_ : List Int, y_ = (bn ++ D) := ⟨_, rfl⟩
     first | (replace H := bn_ aG H; try dsimp only at H) | rw [← aG] at H
     have b2 := mk_ aG
     clear aG
     revert H; refine g_ (dt_ fun cU => g_ (dt_ fun cV H => ?_))
     obtain ⟨aN, aH⟩ : ∃ y_ : List Int, y_ = (O.set (((rd_T68 a d).f0) : Int).toNat u) := ⟨_, rfl⟩
     first | (replace H := bn_ aH H; try dsimp only at H) | rw [← aH] at H
     have b3 := mk_ aH
     clear aH
     replace H := bm_ H; obtain ⟨⟨bQ, ci⟩, cD, H⟩ := H
     try dsimp only at H
     go_upto_region 18 with (first | ((with_reducible refine gate_dst (N := 79) rfl ?_); (try (refine gate_guard (by rfl) ?_; dsimp only)); refine Kd.R_lit (Kd.int .i64) _ 3 ?hg (N := 79) ?hd (xs := ([] : List Int)) (inner := []) (ok := fun _ => True) (okp := fun _ => True) ?hr ?hp (fun _ hk => hk) trivial (Below.refl _ _) (Nat.le_refl _) (by simp) ?_; (case hd => rfl); (case hg => rfl); (case hr => first | (go_simp; done) | (go_simp; rfl)); (case hp => exact (Reps.none _ _)); intro cj dm aP hb cE b4; clear cE b4; (first | rw [← bC.out] at aP | (simp only [Int.reduceToNat] at aP; rw [← bC.out] at aP)); have aI := mk_ (Kd.R_lower aP (below_size (at_ HB.out))); replace i := mk_ (blk_at i.out hb); replace c := mk_ (blk_at c.out hb); replace HB := ht_ HB hb; clear hb aP) | ((with_reducible refine gate_builtin (b := .append) (xs := #[.tmp 79, .tmp 80]) rfl ?_); (try (refine gate_guard (by rfl) ?_; dsimp only)); at_builtin; refine Kd.R_append_rows (Kd.int .i64) (w0 := w) w.heap.size rfl (.tmp 79) (.tmp 80) 103 3 (.int .i64 0) 8 rfl Tryd.underlying103 info3 rfl (by decide) (by omega) cj bn D _ _ _ (fun _ => True) (fun _ => False) rfl rfl ?aO ?aR (fun _ _ h => h) (fun _ h => h.elim) ?aF ?aB ?aS ?aL ?_; (case aR => exact Kd.C_below (Kd.C_below bN.out HB.out) lt_); (case aB => exact (at_ HB.out)); (case aF => exact (fun _ _ => trivial)); (case aO => exact (Kd.R_below aI.out lt_)); (case aS => exact (below_size (at_ HB.out))); (case aL => have := b1.out; omega); intro dd cc ho hb hg hat; rw [← b2.out] at ho; replace i := mk_ (blk_grown (g := x) (o := .cells #[.int .i64 m, .slice (some E) a.length s] 27 (0, 0)) (bk_ i.out) hg (Kd.R_ne aI.out i.out (by decide))); replace c := mk_ (blk_grown (g := n) (o := .cells #[.int .i64 ((rd_T68 a d).f0), .int .i64 ((rd_T68 a d).f1), .int .i64 ((rd_T68 a d).f2)] 68 (0, 0)) (bk_ c.out) hg (Kd.R_ne aI.out c.out (by decide))); replace HB := mk_ (hb); have r := mk_ (ho); (try clear aI); clear ho hb hg hat; have cW := q.out; have cX := j.out; obtain ⟨cm, cn, co, cp, cq, cr⟩ := b3_ c; have bR : 0 ≤ (((rd_T68 a d).f0) : Int) := oa_; have bS : (((rd_T68 a d).f0) : Int) < ((O.length : Int) : Int) := oa_; obtain ⟨bp, bT, bU, bV, ck, de, bW⟩ := Kd.R_form r.out (by omega); (first | cases bU | (injection bU with ea_ en_ ec_; (first | subst ea_ | (injection ea_ with ea_; subst ea_)); subst ec_; clear en_)); have cl := mk_ bV; have dg := mk_ bW; clear bV ck bW; obtain ⟨cF, cG⟩ := Kd.R_celln 0 r.out (((rd_T68 a d).f0) : Int) bR bS; replace bR := eq_true bR; replace bS := eq_true bS; obtain ⟨cY, cZ⟩ := Kd.R_celln 0 r.out (((rd_T68 a d).f0) : Int) (oa_) (oa_); have bw := Kd.R_putg r.out (((rd_T68 a d).f0) : Int) u) | ((with_reducible refine gate_store (t := 3) (p := 86) rfl ?_); refine store_event (t := 3) (p := 86) (v := ?vo_w55) (w1 := (cc.setCell ⟨bp, (((rd_T68 a d).f0) : Int).toNat, none⟩ (.int .i64 u))) ?hg ?ho ?hn ?hr ?_; (case ho => rfl); (case hg => rfl); (case hn => rfl); (case hr => first | (go_simp; done) | (go_simp; rfl)); intro bX hw; have hg : cc.grownBy bX (some bp) := (by rw [hw]; exact bw.2); have cd : Kd.R (Kd.int .i64) 3 bX w.heap.size (fun _ => True) (.slice (some ⟨bp, 0, none⟩) O.length bT) aN := (by rw [hw, b3.out]; exact bw.1); clear bw; replace i := mk_ (blk_grown (g := x) (o := .cells #[.int .i64 m, .slice (some E) a.length s] 27 (0, 0)) (bk_ i.out) hg (Kd.R_ne r.out i.out (by decide))); replace c := mk_ (blk_grown (g := n) (o := .cells #[.int .i64 ((rd_T68 a d).f0), .int .i64 ((rd_T68 a d).f1), .int .i64 ((rd_T68 a d).f2)] 68 (0, 0)) (bk_ c.out) hg (Kd.R_ne r.out c.out (by decide))); replace r := mk_ (cd); replace HB := mk_ ((by rw [hw]; exact below_set (HB.out) cl.out : Below w.heap.size w bX)); clear hg hw cd; obtain ⟨ct, cu, cv, cw⟩ := b2_ i) | ((with_reducible refine gate_callee (f := 59) rfl ?_); refine goesL_ (some 94) rfl rfl Tryd.func59 (by kernel_rfl) rfl #[.int .i64 G, .slice A1 l1.length c1, .slice A2 L.length c2, .agg #[.int .i64 m, .slice (some E) a.length s], .int .i64 y, .slice (some ⟨bp, 0, none⟩) aN.length bT] rfl (by (try simp only [List.map_toArray, List.map_cons, List.map_nil]); first | done | (rw [show aN.length = O.length from (Kd.R_reads' r.out).1.symm] <;> rfl) | rfl | (simp only [List.length_drop, List.length_take]; rfl)) ?_; (with_reducible refine (ih bk (by have := M.out; have := az.out; have := ay.out; have := bv.out; omega) G _ _ l1 _ _ L m _ _ a y _ _ aN bQ ci _ ?side1 ?side2 ?side3 ?side4 ?side5 ?side6 ?side7 ?side8 cD.out).mono ?_); (case side1 => exact Kd.C_below (Kd.C_below b5.out HB.out) lt_); (case side2 => exact b6.out); (case side3 => exact Kd.C_below (Kd.C_below b7.out HB.out) lt_); (case side4 => exact b8.out); (case side5 => exact Kd.C_below (Kd.C_below bx.out HB.out) lt_); (case side6 => exact b0.out); (case side7 => exact Kd.C_below (Kd.R_reads' r.out).2.2 lt_); (case side8 => rw [show aN.length = O.length from (Kd.R_reads' r.out).1.symm]; exact (Kd.R_reads' r.out).2.1); rintro e dn ⟨rfl, hb⟩; refine ⟨_, rfl, ?_⟩; replace i := mk_ (blk_at i.out hb); replace c := mk_ (blk_at c.out hb); replace HB := ht_ HB hb; (try clear r); (try clear hb)))
     revert H; refine bi_ ?_ ?_ <;> rintro rfl H
     ·simp only [Option.some.injEq, Prod.mk.injEq] at H
      obtain ⟨rfl, rfl⟩ := H
      go_wp2
      go_ret2
      exact ⟨er_, at_ HB.out⟩
     have H' := mk_ H
     clear H
     go_wp2
     go_roundg bk
     case measure => have := M.out; have := az.out; have := ay.out; have := bv.out; omega
     case rel => exact ⟨(wrap64 (J + bQ)), (wrap64 (u + 1)), sm_, sm_, H', ⟨by have := M.out; have := az.out; have := ay.out; have := bv.out; omega⟩, ⟨by refine bs_ ?_; exact i.out⟩, ⟨by refine bs_ ?_; exact c.out⟩, ⟨at_ HB.out⟩⟩
def spec_l11Nothing.l0 : Nat → Int → List Int → Int → Option (List Int)
 | 0, _, _, _ => none
 | k + 1, x0, x3, x4 => if x4 < x0 then (if x3.length < 17592186044416 then (spec_l11Nothing.l0 k x0 (x3 ++ [(-1)]) (wrap64 (x4 + 1))) else (none)) else (some x3)
def spec_l11Nothing.f (k : Nat) (a0 : Int) : Option (List Int) := spec_l11Nothing.l0 k a0 (([] : List Int)) 0
theorem spec_l11Nothing.mono_l : ∀ k, (∀ y0 y1 y2, LeO (spec_l11Nothing.l0 k y0 y1 y2) (spec_l11Nothing.l0 (k + 1) y0 y1 y2))
 | 0 => fun _ _ _ r h => by simp [spec_l11Nothing.l0] at h
 | k + 1 => by
  have ih0 := spec_l11Nothing.mono_l k
  ·intro y0 y1 y2
   unfold spec_l11Nothing.l0
   repeat' first
   | (with_reducible exact ih0 _ _ _)
   | (with_reducible exact LeO.refl _)
   | (with_reducible exact LeO.none _)
   | (with_reducible refine LeO.ite ?_ ?_)
   | (with_reducible refine LeO.bind ?_ (fun _ => ?_))
theorem spec_l11Nothing.mono : ∀ a0 k, LeO (spec_l11Nothing.f k a0) (spec_l11Nothing.f (k + 1) a0) := by
 intro a0 k
 have ih0 := spec_l11Nothing.mono_l k
 unfold spec_l11Nothing.f
 repeat' first
   | (with_reducible exact ih0 _ _ _)
   | (with_reducible exact LeO.refl _)
   | (with_reducible exact LeO.none _)
   | (with_reducible refine LeO.ite ?_ ?_)
   | (with_reducible refine LeO.bind ?_ (fun _ => ?_))
theorem spec_l11Nothing.calls (k : Nat) (m : Int) (r : List Int) (w : World) (h : spec_l11Nothing.f k m = some r) :
  Calls Tryd.prog 60 #[.int .i64 m] w fun e w' => ∃ t : Value, e = .returned (t) ∧ Kd.R (Kd.int .i64) 3 w' w.heap.size (fun _ => True) t r ∧ Below w.heap.size w w' := by
 have HB := mk_ (Below.refl w.heap.size w)
 have H : (spec_l11Nothing.l0 k m (([] : List Int)) 0) = some r := h
 clear h
 obtain ⟨n, d⟩ : ∃ y_ : List Int, y_ = (([] : List Int)) := ⟨_, rfl⟩
 replace H : (spec_l11Nothing.l0 k m n 0) = some r := by first | (rw [d]; exact H) | exact H
 have l := mk_ d
 clear d
 have H' := mk_ H
 clear H
 go_enter Tryd.func60, Tryd.ntmps60
 go_wp2_with (first | ((with_reducible refine gate_dst (N := 5) rfl ?_); refine Kd.R_lit (Kd.int .i64) _ 3 ?hg (N := 5) ?hd (xs := ([] : List Int)) (inner := []) (ok := fun _ => True) (okp := fun _ => True) ?hr ?hp (fun _ hk => hk) trivial (Below.refl _ _) (Nat.le_refl _) (by simp) ?_; (case hd => rfl); (case hg => rfl); (case hr => first | (go_simp; done) | (go_simp; rfl)); (case hp => exact (Reps.none _ _)); intro A I i hb z o; clear z o; (first | rw [← l.out] at i | (simp only [Int.reduceToNat] at i; rw [← l.out] at i)); have p := mk_ (Kd.R_lower i (below_size (below_at HB.out))); replace HB := hs_ HB hb; clear hb i))
 go_loopg [3, 4] k (fun kq B D w' => ∃ (c : List Int) (g : Int), D = .int .i64 g ∧ Aside0 (spec_l11Nothing.l0 kq m c g = some r) ∧ Aside0 (kq ≤ k) ∧ Aside0 (Kd.R (Kd.int .i64) 3 w' w.heap.size (fun _ => True) B c) ∧ Aside0 (Below w.heap.size w w'))
 case atStart => exact ⟨(n), (0), sm_, H', ⟨Nat.le_refl _⟩, ⟨Kd.R_below p.out lt_⟩, ⟨below_at HB.out⟩⟩
 clear H'
 obtain ⟨c, g, rfl, HA, u, j, HB⟩ := hrel
 cases gk with
 | zero => exact absurd HA.out (by simp [spec_l11Nothing.l0])
 | succ E =>
  have H := HA.out
  clear HA
  simp only [spec_l11Nothing.l0] at H
  revert H; refine ti_ (df_ fun v H => ?_) (dt_ fun v H => ?_)
  ·obtain rfl := Option.some.inj H
   go_wp2
   go_ret
   exact ⟨_, er_, rl_ j.out, below_at HB.out⟩
  revert H; refine g_ (mt_ fun x H => ?_)
  obtain ⟨y, a⟩ : ∃ y_ : List Int, y_ = (c ++ [(-1)]) := ⟨_, rfl⟩
  first | (replace H := bn_ a H; try dsimp only at H) | rw [← a] at H
  have q := mk_ a
  clear a
  have H' := mk_ H
  clear H
  go_wp2_with (first | ((with_reducible refine gate_builtin (b := .append) (xs := #[.tmp 11, .tmp 12]) rfl ?_); at_builtin; refine Kd.R_append (Kd.int .i64) (w0 := w) w.heap.size rfl (.tmp 11) (.tmp 12) 103 3 (.int .i64 0) 8 rfl Tryd.underlying103 info3 rfl (by decide) (by omega) u3 c (-1) [.int .i64 (-1)] (fun _ => True) (fun _ => False) rfl rfl ?aP (fun _ hk => hk.elim) ?aF ?aO ?aB ?aS ?aL ?_; (case aP => exact rfl); (case aB => exact (below_at HB.out)); (case aF => exact (fun _ _ => trivial)); (case aO => exact (Kd.R_below j.out lt_)); (case aS => exact (below_size (below_at HB.out))); (case aL => have := x.out; omega); intro G J ho hb hg hat; rw [← q.out] at ho; replace HB := mk_ (hb); have s := mk_ (ho); (try clear j); clear ho hb hg hat))
  go_roundg E
  case measure => have := u.out; omega
  case rel => exact ⟨(y), (wrap64 (g + 1)), sm_, H', ⟨by have := u.out; omega⟩, ⟨Kd.R_below s.out lt_⟩, ⟨below_at HB.out⟩⟩
end Go.Proofs.YtcaogllnbpmcgaaDoor.P

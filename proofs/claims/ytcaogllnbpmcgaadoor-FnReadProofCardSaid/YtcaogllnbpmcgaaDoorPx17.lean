/- Go's functions come to just the answers of the Lean functions told here. -/
import Derived.Test.YtcaogllnbpmcgaaDoorPx2
set_option maxHeartbeats 8000000
set_option maxRecDepth 100000
namespace Go.Proofs.YtcaogllnbpmcgaaDoor.P
open Go.RowKit Go.Proofs.YtcaogllnbpmcgaaDoorW.PrintWords Go.Proofs.YtcaogllnbpmcgaaDoorW.PrintLast Go.Proofs.YtcaogllnbpmcgaaDoorW.PrintMore
attribute [local go_sem] max2_int min2_int max_two min_two max_three min_three max_four min_four
set_option linter.unusedVariables false
set_option linter.unusedSimpArgs false
attribute [local go_sem high] eqA82
def spec_l1In.f (a0 : Int) (a1 : Int) (a2 : Int) : Option (Bool) := if a0 ≥ a1 then (some (decide (a0 ≤ a2))) else (some false)
theorem spec_l1In.calls (a : Int) (b : Int) (c : Int) (r : Bool) (w : World) (h : spec_l1In.f a b c = some r) :
  Calls Tryd.prog 80 #[.int .i64 a, .int .i64 b, .int .i64 c] w fun e w' => e = .returned (.bool r) ∧ Drawn0 w w' := by
 have H : (if a ≥ b then (some (decide (a ≤ c))) else (some false)) = some r := h
 clear h
 revert H; refine it_ (dt_e fun d H => ?_) (df_e fun d H => ?_)
 ·obtain rfl := Option.some.inj H
  go_enter Tryd.func80, Tryd.ntmps80
  go_wp2
  go_ret
  exact ⟨sm_, by repeat (first | exact Drawn0.refl _ | apply Drawn0.step)⟩
 obtain rfl := Option.some.inj H
 go_enter Tryd.func80, Tryd.ntmps80
 go_wp2
 go_ret
 exact ⟨sm_, by repeat (first | exact Drawn0.refl _ | apply Drawn0.step)⟩
mutual
def spec_TermOk.l0 : Nat → Int → List (S82) → Int → Int → Option (Bool)
 | 0, _, _, _, _ => none
 | k + 1, x0, x1, x5, x6 => if x6 < (x1.length : Int) then (if 0 ≤ x6 then (if ((rd_T82 x1 x6).f0) = 0 then (if ((rd_T82 x1 x6).f1) ≥ 0 then (spec_TermOk.j1 k x0 x1 x5 x6 (decide (((rd_T82 x1 x6).f1) < x0))) else (spec_TermOk.j1 k x0 x1 x5 x6 false)) else (spec_TermOk.j1 k x0 x1 x5 x6 false)) else (none)) else ((spec_l1In.f x0 1 4).bind fun t178 => (if t178 = true then (if x5 = 1 then (some (decide ((x1.length : Int) ≤ 15))) else (some false)) else (some false)))
def spec_TermOk.j1 : Nat → Int → List (S82) → Int → Int → Bool → Option (Bool)
 | 0, _, _, _, _, _ => none
 | k + 1, x0, x1, x5, x6, x13 => if x13 = true then (spec_TermOk.l0 k x0 x1 (wrap64 (x5 + 1)) (wrap64 (x6 + 1))) else (if 0 ≤ x6 then (if x6 < (x1.length : Int) then (if ((rd_T82 x1 x6).f0) = 1 then (if ((rd_T82 x1 x6).f1) ≥ 0 then (if ((rd_T82 x1 x6).f1) ≤ x0 then (spec_TermOk.j2 k x0 x1 x5 x6 true) else (spec_TermOk.j2 k x0 x1 x5 x6 ((wrap64 (((rd_T82 x1 x6).f1) - 1)) == x0))) else (spec_TermOk.j2 k x0 x1 x5 x6 false)) else (spec_TermOk.j2 k x0 x1 x5 x6 false)) else (none)) else (none))
def spec_TermOk.j2 : Nat → Int → List (S82) → Int → Int → Bool → Option (Bool)
 | 0, _, _, _, _, _ => none
 | k + 1, x0, x1, x5, x6, x39 => if x39 = true then (spec_TermOk.l0 k x0 x1 (wrap64 (x5 + 1)) (wrap64 (x6 + 1))) else (if 0 ≤ x6 then (if x6 < (x1.length : Int) then (if (((rd_T82 x1 x6).f0) == 2 && (((rd_T82 x1 x6).f1) == 0)) = true then (spec_TermOk.j3 k x0 x1 x5 x6 (decide (x5 ≥ 1))) else (spec_TermOk.j3 k x0 x1 x5 x6 false)) else (none)) else (none))
def spec_TermOk.j3 : Nat → Int → List (S82) → Int → Int → Bool → Option (Bool)
 | 0, _, _, _, _, _ => none
 | k + 1, x0, x1, x5, x6, x75 => if x75 = true then (spec_TermOk.l0 k x0 x1 x5 (wrap64 (x6 + 1))) else (if 0 ≤ x6 then (if x6 < (x1.length : Int) then ((spec_l1In.f ((rd_T82 x1 x6).f0) 3 5).bind fun t188 => (if t188 = true then (if ((rd_T82 x1 x6).f1) = 0 then (if x5 ≥ 2 then (spec_TermOk.l0 k x0 x1 (wrap64 (x5 - 1)) (wrap64 (x6 + 1))) else (some false)) else (some false)) else (some false))) else (none)) else (none))
end
def spec_TermOk.f (k : Nat) (a0 : Int) (l1 : List (S82)) : Option (Bool) := spec_TermOk.l0 k a0 l1 0 0
theorem spec_TermOk.calls (k : Nat) (v : Int) (A1 : Option Addr) (c1 : Nat) (l1 : List (S82)) (r : Bool) (w : World) (a9 : Kd.C k82 w A1 l1.length l1) (ba : l1.length ≤ c1) (h : spec_TermOk.f k v l1 = some r) :
  Calls Tryd.prog 58 #[.int .i64 v, .slice A1 l1.length c1] w fun e w' => e = .returned (.bool r) ∧ Drawn0 w w' := by
 have br := Tryd.underlying82
 have b := mk_ a9
 have bA := mk_ ba
 clear a9 ba
 have H : (spec_TermOk.l0 k v l1 0 0) = some r := h
 clear h
 have H' := mk_ H
 clear H
 go_enter Tryd.func58, Tryd.ntmps58
 go_wp2
 go_loopg [5, 6] k (fun kq v5 v6 w' => ∃ (g : Int) (a : Int), v5 = .int .i64 g ∧ v6 = .int .i64 a ∧ Aside0 (spec_TermOk.l0 kq v l1 g a = some r) ∧ Aside0 (kq ≤ k) ∧ Drawn0 w w')
 case atStart => exact ⟨(0), (0), sm_, sm_, H', ⟨Nat.le_refl _⟩, by repeat (first | exact Drawn0.refl _ | apply Drawn0.step)⟩
 clear H'
 try clear c1
 obtain ⟨g, a, rfl, rfl, HA, c, ⟨m1, rfl⟩⟩ := hrel
 cases gk with
 | zero => exact absurd HA.out (by simp [spec_TermOk.l0])
 | succ k1 =>
  have H := HA.out
  clear HA
  simp only [spec_TermOk.l0] at H
  revert H; refine ti_ (df_ fun ah H => ?_) (dt_ fun ah H => ?_)
  ·revert H; refine bd_ fun bw aP H => ?_
   try dsimp only at H
   revert H; refine bi_ ?_ ?_ <;> rintro rfl H
   ·obtain rfl := Option.some.inj H
    go_wp2_with (first | (refine gc_ 80 (some 108) Tryd.func80 #[.int .i64 v, .int .i64 1, .int .i64 4] ?_; (with_reducible refine (spec_l1In.calls v 1 4 false _ aP.out).mono ?_); rintro e w' ⟨rfl, ⟨nd, rfl⟩⟩; refine ⟨_, rfl, ?_⟩))
    go_ret
    exact ⟨sm_, by repeat (first | exact Drawn0.refl _ | apply Drawn0.step)⟩
   revert H; refine it_ (qt_ fun aZ a1 H => ?_) (qfk_ fun bB aZ a1 H => ?_)
   ·obtain rfl := Option.some.inj H
    go_wp2_with (first | (refine gc_ 80 (some 108) Tryd.func80 #[.int .i64 v, .int .i64 1, .int .i64 4] ?_; (with_reducible refine (spec_l1In.calls v 1 4 true _ aP.out).mono ?_); rintro e w' ⟨rfl, ⟨nd, rfl⟩⟩; refine ⟨_, rfl, ?_⟩))
    go_ret
    exact ⟨sm_, by repeat (first | exact Drawn0.refl _ | apply Drawn0.step)⟩
   obtain rfl := Option.some.inj H
   go_wp2_with (first | (refine gc_ 80 (some 108) Tryd.func80 #[.int .i64 v, .int .i64 1, .int .i64 4] ?_; (with_reducible refine (spec_l1In.calls v 1 4 true _ aP.out).mono ?_); rintro e w' ⟨rfl, ⟨nd, rfl⟩⟩; refine ⟨_, rfl, ?_⟩))
   go_ret
   exact ⟨sm_, by repeat (first | exact Drawn0.refl _ | apply Drawn0.step)⟩
  have aQ := mk_ H
  clear H
  go_upto_region 6 with (fail)
  go_cut [13] (fun bj wc => ∃ (kq : Nat) (ai : Bool), bj = .bool ai ∧ Aside0 (spec_TermOk.j1 kq v l1 g a ai = some r) ∧ Aside0 (kq ≤ k1) ∧ Drawn0 w wc)
  case first =>
   have H := aQ.out
   clear aQ
   revert H; refine g_ (dt_ fun O H => ?_)
   (first | rw [O] | (simp only [i64_w, i32_w]; rw [O]) | skip)
   revert H; refine ti_ (qfk_ fun c6 aj ak H => ?_) (qt_ fun aj ak H => ?_)
   ·have H' := mk_ H
    clear H
    obtain ⟨z, P, j, l⟩ := at_T82 b.out a oa_ oa_
    cases P
    obtain ⟨T, U⟩ := pq_ (a : Int) (l1.length : Int)
    go_wp2
    go_meet
    case rel => exact ⟨_, (false), sm_, H', ⟨by have := c.out; first | omega | exact Nat.le_refl _⟩, by repeat (first | exact Drawn0.refl _ | apply Drawn0.step)⟩
   revert H; refine ti_ (df_ fun (c7b0 : decide (0 ≤ ((rd_T82 l1 a).f1)) = false) H => ?_) (dt_ fun (c7b0 : decide (0 ≤ ((rd_T82 l1 a).f1)) = true) H => ?_)
   ·have H' := mk_ H
    clear H
    obtain ⟨z, P, j, l⟩ := at_T82 b.out a oa_ oa_
    cases P
    obtain ⟨T, U⟩ := pq_ (a : Int) (l1.length : Int)
    obtain ⟨al, az, p, q⟩ := at_T82 b.out a oa_ oa_
    obtain rfl : z = al := (by injection az)
    obtain ⟨am, an⟩ := pq_ (a : Int) (l1.length : Int)
    go_wp2
    go_meet
    case rel => exact ⟨_, (false), sm_, H', ⟨by have := c.out; first | omega | exact Nat.le_refl _⟩, by repeat (first | exact Drawn0.refl _ | apply Drawn0.step)⟩
   have H' := mk_ H
   clear H
   obtain ⟨z, P, j, l⟩ := at_T82 b.out a oa_ oa_
   cases P
   obtain ⟨T, U⟩ := pq_ (a : Int) (l1.length : Int)
   obtain ⟨al, az, p, q⟩ := at_T82 b.out a oa_ oa_
   obtain rfl : z = al := (by injection az)
   obtain ⟨am, an⟩ := pq_ (a : Int) (l1.length : Int)
   obtain ⟨a2, bf, D, E⟩ := at_T82 b.out a oa_ oa_
   obtain rfl : z = a2 := (by injection bf)
   obtain ⟨aA, aB⟩ := pq_ (a : Int) (l1.length : Int)
   go_wp2
   go_meet
   case rel => exact ⟨_, (decide (((rd_T82 l1 a).f1) < v)), sm_, H', ⟨by have := c.out; first | omega | exact Nat.le_refl _⟩, by repeat (first | exact Drawn0.refl _ | apply Drawn0.step)⟩
  clear aQ
  try clear c1
  try clear ah
  try clear O
  try clear c6
  try clear aj
  try clear ak
  try clear c7b0
  try clear j
  try clear l
  try clear p
  try clear q
  try clear D
  try clear E
  try clear T
  try clear am
  try clear aA
  try clear U
  try clear an
  try clear aB
  obtain ⟨kq, ai, rfl, HA, i, ⟨bC, rfl⟩⟩ := hcut
  cases kq with
  | zero => exact absurd HA.out (by simp [spec_TermOk.j1])
  | succ bb =>
   have H := HA.out
   clear HA
   simp only [spec_TermOk.j1] at H
   revert H; refine ib_ ?_ ?_ <;> rintro rfl H
   ·have H' := mk_ H
    clear H
    go_wp2
    go_roundg bb
    case measure => have := c.out; have := i.out; omega
    case rel => exact ⟨(wrap64 (g + 1)), (wrap64 (a + 1)), sm_, sm_, H', ⟨by have := c.out; have := i.out; omega⟩, by repeat (first | exact Drawn0.refl _ | apply Drawn0.step)⟩
   have aR := mk_ H
   clear H
   go_upto_region 8 with (fail)
   go_cut [39] (fun bk wc => ∃ (kq : Nat) (ao : Bool), bk = .bool ao ∧ Aside0 (spec_TermOk.j2 kq v l1 g a ao = some r) ∧ Aside0 (kq ≤ bb) ∧ Drawn0 w wc)
   case first =>
    have H := aR.out
    clear aR
    revert H; refine g_ (dt_ fun M H => ?_)
    (first | rw [M] | (simp only [i64_w, i32_w]; rw [M]) | skip)
    revert H; refine g_ (dt_ fun aJ => ti_ (qfk_ fun bc ap aq H => ?_) (qt_ fun ap aq H => ?_))
    ·have H' := mk_ H
     clear H
     obtain ⟨d, x, m, n⟩ := at_T82 b.out a oa_ oa_
     cases x
     obtain ⟨W, X⟩ := pq_ (a : Int) (l1.length : Int)
     go_wp2
     go_meet
     case rel => exact ⟨_, (false), sm_, H', ⟨by have := c.out; have := i.out; first | omega | exact Nat.le_refl _⟩, by repeat (first | exact Drawn0.refl _ | apply Drawn0.step)⟩
    revert H; refine ti_ (df_ fun (c13b0 : decide (0 ≤ ((rd_T82 l1 a).f1)) = false) H => ?_) (dt_ fun (c13b0 : decide (0 ≤ ((rd_T82 l1 a).f1)) = true) H => ?_)
    ·have H' := mk_ H
     clear H
     obtain ⟨d, x, m, n⟩ := at_T82 b.out a oa_ oa_
     cases x
     obtain ⟨W, X⟩ := pq_ (a : Int) (l1.length : Int)
     obtain ⟨A, Y, s, t⟩ := at_T82 b.out a oa_ oa_
     obtain rfl : d = A := (by injection Y)
     obtain ⟨ar, au⟩ := pq_ (a : Int) (l1.length : Int)
     go_wp2
     go_meet
     case rel => exact ⟨_, (false), sm_, H', ⟨by have := c.out; have := i.out; first | omega | exact Nat.le_refl _⟩, by repeat (first | exact Drawn0.refl _ | apply Drawn0.step)⟩
    revert H; refine it_ (dt_ fun av H => ?_) (df_ fun av H => ?_)
    ·have H' := mk_ H
     clear H
     obtain ⟨d, x, m, n⟩ := at_T82 b.out a oa_ oa_
     cases x
     obtain ⟨W, X⟩ := pq_ (a : Int) (l1.length : Int)
     obtain ⟨A, Y, s, t⟩ := at_T82 b.out a oa_ oa_
     obtain rfl : d = A := (by injection Y)
     obtain ⟨ar, au⟩ := pq_ (a : Int) (l1.length : Int)
     obtain ⟨aw, aC, G, I⟩ := at_T82 b.out a oa_ oa_
     obtain rfl : d = aw := (by injection aC)
     obtain ⟨aD, aE⟩ := pq_ (a : Int) (l1.length : Int)
     go_wp2
     go_meet
     case rel => exact ⟨_, (true), sm_, H', ⟨by have := c.out; have := i.out; first | omega | exact Nat.le_refl _⟩, by repeat (first | exact Drawn0.refl _ | apply Drawn0.step)⟩
    have H' := mk_ H
    clear H
    obtain ⟨d, x, m, n⟩ := at_T82 b.out a oa_ oa_
    cases x
    obtain ⟨W, X⟩ := pq_ (a : Int) (l1.length : Int)
    obtain ⟨A, Y, s, t⟩ := at_T82 b.out a oa_ oa_
    obtain rfl : d = A := (by injection Y)
    obtain ⟨ar, au⟩ := pq_ (a : Int) (l1.length : Int)
    obtain ⟨aw, aC, G, I⟩ := at_T82 b.out a oa_ oa_
    obtain rfl : d = aw := (by injection aC)
    obtain ⟨aD, aE⟩ := pq_ (a : Int) (l1.length : Int)
    obtain ⟨a3, bg, ab, ac⟩ := at_T82 b.out a oa_ oa_
    obtain rfl : d = a3 := (by injection bg)
    obtain ⟨aS, aT⟩ := pq_ (a : Int) (l1.length : Int)
    go_wp2
    go_meet
    case rel => exact ⟨_, (((wrap64 (((rd_T82 l1 a).f1) - 1)) == v)), sm_, H', ⟨by have := c.out; have := i.out; first | omega | exact Nat.le_refl _⟩, by repeat (first | exact Drawn0.refl _ | apply Drawn0.step)⟩
   clear aR
   try clear c1
   try clear ah
   try clear O
   try clear c6
   try clear aj
   try clear ak
   try clear c7b0
   try clear M
   try clear aJ
   try clear bc
   try clear ap
   try clear aq
   try clear c13b0
   try clear av
   try clear j
   try clear l
   try clear p
   try clear q
   try clear D
   try clear E
   try clear m
   try clear n
   try clear s
   try clear t
   try clear G
   try clear I
   try clear ab
   try clear ac
   try clear T
   try clear am
   try clear aA
   try clear W
   try clear ar
   try clear aD
   try clear aS
   try clear U
   try clear an
   try clear aB
   try clear X
   try clear au
   try clear aE
   try clear aT
   obtain ⟨kq, ao, rfl, HA, L, ⟨bD, rfl⟩⟩ := hcut
   cases kq with
   | zero => exact absurd HA.out (by simp [spec_TermOk.j2])
   | succ be =>
    have H := HA.out
    clear HA
    simp only [spec_TermOk.j2] at H
    revert H; refine ib_ ?_ ?_ <;> rintro rfl H
    ·have H' := mk_ H
     clear H
     go_wp2
     go_roundg be
     case measure => have := c.out; have := i.out; have := L.out; omega
     case rel => exact ⟨(wrap64 (g + 1)), (wrap64 (a + 1)), sm_, sm_, H', ⟨by have := c.out; have := i.out; have := L.out; omega⟩, by repeat (first | exact Drawn0.refl _ | apply Drawn0.step)⟩
    have aF := mk_ H
    clear H
    go_upto_region 10 with (fail)
    go_cut [75] (fun bn wc => ∃ (kq : Nat) (Z : Bool), bn = .bool Z ∧ Aside0 (spec_TermOk.j3 kq v l1 g a Z = some r) ∧ Aside0 (kq ≤ be) ∧ Drawn0 w wc)
    case first =>
     have H := aF.out
     clear aF
     revert H; refine g_ (dt_ fun ax H => ?_)
     (first | rw [ax] | (simp only [i64_w, i32_w]; rw [ax]) | skip)
     revert H; refine g_ (dt_ fun a4 => it_ (fun o H => ?_) fun o H => ?_)
     ·have aK : (((rd_T82 l1 a).f0) == 2 && (((rd_T82 l1 a).f1) == 0)) = true := o
      (try (have aL : decide (((rd_T82 l1 a).f0) = 2 && (((rd_T82 l1 a).f1) == 0)) = true := by simpa using o))
      (try (have aM : (((rd_T82 l1 a).f0) == 2 && (((rd_T82 l1 a).f1) == 0)) = true := by simpa using o))
      clear o
      have H' := mk_ H
      clear H
      obtain ⟨a5, aG, ad, ae⟩ := at_T82 b.out a oa_ oa_
      cases aG
      obtain ⟨aU, aV⟩ := pq_ (a : Int) (l1.length : Int)
      go_wp2
      go_meet
      case rel => exact ⟨_, (decide (g ≥ 1)), sm_, H', ⟨by have := c.out; have := i.out; have := L.out; first | omega | exact Nat.le_refl _⟩, by repeat (first | exact Drawn0.refl _ | apply Drawn0.step)⟩
     have aK : (((rd_T82 l1 a).f0) == 2 && (((rd_T82 l1 a).f1) == 0)) = false := by simpa using o
     (try (have aL : decide (((rd_T82 l1 a).f0) = 2 && (((rd_T82 l1 a).f1) == 0)) = false := by simpa using o))
     (try (have aM : (((rd_T82 l1 a).f0) == 2 && (((rd_T82 l1 a).f1) == 0)) = false := by simpa using o))
     (try (have bo : ¬ (((rd_T82 l1 a).f0) = 2 && (((rd_T82 l1 a).f1) == 0)) := by simpa using o))
     clear o
     have H' := mk_ H
     clear H
     obtain ⟨a5, aG, ad, ae⟩ := at_T82 b.out a oa_ oa_
     cases aG
     obtain ⟨aU, aV⟩ := pq_ (a : Int) (l1.length : Int)
     go_wp2
     go_meet
     case rel => exact ⟨_, (false), sm_, H', ⟨by have := c.out; have := i.out; have := L.out; first | omega | exact Nat.le_refl _⟩, by repeat (first | exact Drawn0.refl _ | apply Drawn0.step)⟩
    clear aF
    try clear c1
    try clear ah
    try clear O
    try clear c6
    try clear aj
    try clear ak
    try clear c7b0
    try clear M
    try clear aJ
    try clear bc
    try clear ap
    try clear aq
    try clear c13b0
    try clear av
    try clear ax
    try clear a4
    try clear o
    try clear aK
    try clear aL
    try clear aM
    try clear j
    try clear l
    try clear p
    try clear q
    try clear D
    try clear E
    try clear m
    try clear n
    try clear s
    try clear t
    try clear G
    try clear I
    try clear ab
    try clear ac
    try clear ad
    try clear ae
    try clear T
    try clear am
    try clear aA
    try clear W
    try clear ar
    try clear aD
    try clear aS
    try clear aU
    try clear U
    try clear an
    try clear aB
    try clear X
    try clear au
    try clear aE
    try clear aT
    try clear aV
    obtain ⟨kq, Z, rfl, HA, ay, ⟨bx, rfl⟩⟩ := hcut
    cases kq with
    | zero => exact absurd HA.out (by simp [spec_TermOk.j3])
    | succ aW =>
     have H := HA.out
     clear HA
     simp only [spec_TermOk.j3] at H
     revert H; refine ib_ ?_ ?_ <;> rintro rfl H
     ·have H' := mk_ H
      clear H
      go_wp2
      go_roundg aW
      case measure => have := c.out; have := i.out; have := L.out; have := ay.out; omega
      case rel => exact ⟨(g), (wrap64 (a + 1)), sm_, sm_, H', ⟨by have := c.out; have := i.out; have := L.out; have := ay.out; omega⟩, by repeat (first | exact Drawn0.refl _ | apply Drawn0.step)⟩
     revert H; refine g_ (dt_ fun bp => g_ (dt_ fun bq => bd_ fun bz aN H => ?_))
     try dsimp only at H
     revert H; refine bi_ ?_ ?_ <;> rintro rfl H
     ·obtain rfl := Option.some.inj H
      obtain ⟨u, y, J, K⟩ := at_T82 b.out a oa_ oa_
      cases y
      obtain ⟨aH, aI⟩ := pq_ (a : Int) (l1.length : Int)
      go_wp2_with (first | (refine gc_ 80 (some 92) Tryd.func80 #[.int .i64 ((rd_T82 l1 a).f0), .int .i64 3, .int .i64 5] ?_; (with_reducible refine (spec_l1In.calls ((rd_T82 l1 a).f0) 3 5 false _ aN.out).mono ?_); rintro e w' ⟨rfl, ⟨nd, rfl⟩⟩; refine ⟨_, rfl, ?_⟩))
      go_ret
      exact ⟨sm_, by repeat (first | exact Drawn0.refl _ | apply Drawn0.step)⟩
     revert H; refine ti_ (qfk_ fun bE a6 a7 H => ?_) (qt_ fun a6 a7 H => ?_)
     ·obtain rfl := Option.some.inj H
      obtain ⟨u, y, J, K⟩ := at_T82 b.out a oa_ oa_
      cases y
      obtain ⟨aH, aI⟩ := pq_ (a : Int) (l1.length : Int)
      go_wp2_with (first | (refine gc_ 80 (some 92) Tryd.func80 #[.int .i64 ((rd_T82 l1 a).f0), .int .i64 3, .int .i64 5] ?_; (with_reducible refine (spec_l1In.calls ((rd_T82 l1 a).f0) 3 5 true _ aN.out).mono ?_); rintro e w' ⟨rfl, ⟨nd, rfl⟩⟩; refine ⟨_, rfl, ?_⟩; obtain ⟨B, aa, af, ag⟩ := at_T82 b.out a oa_ oa_; obtain rfl : u = B := (by injection aa); obtain ⟨aX, aY⟩ := pq_ (a : Int) (l1.length : Int)))
      go_ret
      exact ⟨sm_, by repeat (first | exact Drawn0.refl _ | apply Drawn0.step)⟩
     revert H; refine ti_ (df_e fun a8 H => ?_) (dt_e fun a8 H => ?_)
     ·obtain rfl := Option.some.inj H
      obtain ⟨u, y, J, K⟩ := at_T82 b.out a oa_ oa_
      cases y
      obtain ⟨aH, aI⟩ := pq_ (a : Int) (l1.length : Int)
      go_wp2_with (first | (refine gc_ 80 (some 92) Tryd.func80 #[.int .i64 ((rd_T82 l1 a).f0), .int .i64 3, .int .i64 5] ?_; (with_reducible refine (spec_l1In.calls ((rd_T82 l1 a).f0) 3 5 true _ aN.out).mono ?_); rintro e w' ⟨rfl, ⟨nd, rfl⟩⟩; refine ⟨_, rfl, ?_⟩; obtain ⟨B, aa, af, ag⟩ := at_T82 b.out a oa_ oa_; obtain rfl : u = B := (by injection aa); obtain ⟨aX, aY⟩ := pq_ (a : Int) (l1.length : Int)))
      go_ret
      exact ⟨sm_, by repeat (first | exact Drawn0.refl _ | apply Drawn0.step)⟩
     have H' := mk_ H
     clear H
     obtain ⟨u, y, J, K⟩ := at_T82 b.out a oa_ oa_
     cases y
     obtain ⟨aH, aI⟩ := pq_ (a : Int) (l1.length : Int)
     go_wp2_with (first | (refine gc_ 80 (some 92) Tryd.func80 #[.int .i64 ((rd_T82 l1 a).f0), .int .i64 3, .int .i64 5] ?_; (with_reducible refine (spec_l1In.calls ((rd_T82 l1 a).f0) 3 5 true _ aN.out).mono ?_); rintro e w' ⟨rfl, ⟨nd, rfl⟩⟩; refine ⟨_, rfl, ?_⟩; obtain ⟨B, aa, af, ag⟩ := at_T82 b.out a oa_ oa_; obtain rfl : u = B := (by injection aa); obtain ⟨aX, aY⟩ := pq_ (a : Int) (l1.length : Int)))
     go_roundg aW
     case measure => have := c.out; have := i.out; have := L.out; have := ay.out; omega
     case rel => exact ⟨(wrap64 (g - 1)), (wrap64 (a + 1)), sm_, sm_, H', ⟨by have := c.out; have := i.out; have := L.out; have := ay.out; omega⟩, by repeat (first | exact Drawn0.refl _ | apply Drawn0.step)⟩
def spec_ClaimOk.f (k : Nat) (a0 : Int) (a1_0 : Int) (l1_1 : List (S82)) : Option (Bool) := if a1_0 ≥ 0 then (if a1_0 < a0 then ((spec_TermOk.f k a0 l1_1).bind fun t191 => (if t191 = true then (some (decide ((l1_1.length : Int) ≤ 13))) else (some false))) else (some false)) else (some false)
theorem spec_ClaimOk.calls (k : Nat) (s : Int) (g : Int) (i : Option Addr) (j : Nat) (a : List (S82)) (r : Bool) (w : World) (n : Kd.C k82 w i a.length a) (o : a.length ≤ j) (h : spec_ClaimOk.f k s g a = some r) :
  Calls Tryd.prog 79 #[.int .i64 s, .agg #[.int .i64 g, .slice i a.length j]] w fun e w' => e = .returned (.bool r) ∧ Below w.heap.size w w' := by
 have U := Tryd.underlying79
 have p := mk_ n
 have q := mk_ o
 clear n o
 have HB := mk_ (Below.refl w.heap.size w)
 unfold spec_ClaimOk.f at h
 have H := h
 clear h
 revert H; refine ti_ (df_e fun t H => ?_) (dt_e fun t H => ?_)
 ·obtain rfl := Option.some.inj H
  go_enter Tryd.func79, Tryd.ntmps79
  go_wp2_with (first | ((with_reducible refine gate_dst (N := 3) rfl ?_); (try (refine gate_guard (by rfl) ?_; dsimp only)); refine bx_ 3 #[.int .i64 g, .slice i a.length j] 79 ?_; intro l hg X b hb; have c := mk_ (b); have d := gm_ hg HB.out; have m := d; replace HB := hs_ HB hb; clear hb b hg; obtain ⟨v, x, y, z⟩ := b2_ c))
  go_ret
  exact ⟨er_, at_ HB.out⟩
 revert H; refine ti_ (df_ fun u H => ?_) (dt_ fun u H => ?_)
 ·obtain rfl := Option.some.inj H
  go_enter Tryd.func79, Tryd.ntmps79
  go_wp2_with (first | ((with_reducible refine gate_dst (N := 3) rfl ?_); (try (refine gate_guard (by rfl) ?_; dsimp only)); refine bx_ 3 #[.int .i64 g, .slice i a.length j] 79 ?_; intro l hg Y b hb; have c := mk_ (b); have d := gm_ hg HB.out; have m := d; replace HB := hs_ HB hb; clear hb b hg; obtain ⟨A, B, D, E⟩ := b2_ c))
  go_ret
  exact ⟨er_, at_ HB.out⟩
 revert H; refine bd_ fun W L H => ?_
 try dsimp only at H
 revert H; refine ib_ ?_ ?_ <;> rintro rfl H
 ·obtain rfl := Option.some.inj H
  go_enter Tryd.func79, Tryd.ntmps79
  go_wp2_with (first | ((with_reducible refine gate_dst (N := 3) rfl ?_); (try (refine gate_guard (by rfl) ?_; dsimp only)); refine bx_ 3 #[.int .i64 g, .slice i a.length j] 79 ?_; intro l hg Z b hb; have c := mk_ (b); have d := gm_ hg HB.out; have m := d; replace HB := hs_ HB hb; clear hb b hg; obtain ⟨M, O, P, T⟩ := b2_ c) | (go_at_call 58; (with_reducible refine (spec_TermOk.calls k s _ _ a true _ ?side1 ?side2 L.out).mono ?_); (case side1 => exact Kd.C_below (Kd.C_below p.out HB.out) lt_); (case side2 => exact q.out); rintro e w' ⟨rfl, ⟨nd, rfl⟩⟩))
  go_ret
  exact ⟨er_, at_ HB.out⟩
 obtain rfl := Option.some.inj H
 go_enter Tryd.func79, Tryd.ntmps79
 go_wp2_with (first | ((with_reducible refine gate_dst (N := 3) rfl ?_); (try (refine gate_guard (by rfl) ?_; dsimp only)); refine bx_ 3 #[.int .i64 g, .slice i a.length j] 79 ?_; intro l hg w9 b hb; have c := mk_ (b); have d := gm_ hg HB.out; have m := d; replace HB := hs_ HB hb; clear hb b hg; obtain ⟨G, I, J, K⟩ := b2_ c) | (go_at_call 58; (with_reducible refine (spec_TermOk.calls k s _ _ a false _ ?side1 ?side2 L.out).mono ?_); (case side1 => exact Kd.C_below (Kd.C_below p.out HB.out) lt_); (case side2 => exact q.out); rintro e w' ⟨rfl, ⟨nd, rfl⟩⟩))
 go_ret
 exact ⟨er_, at_ HB.out⟩
end Go.Proofs.YtcaogllnbpmcgaaDoor.P

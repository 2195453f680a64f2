/- Go's functions come to just the answers of the Lean functions told here. -/
import Derived.Test.YtcaogllnbpmcgaaDoorPx0
set_option maxHeartbeats 8000000
set_option maxRecDepth 100000
namespace Go.Proofs.YtcaogllnbpmcgaaDoor.P
open Go.RowKit Go.Proofs.YtcaogllnbpmcgaaDoorW.PrintWords Go.Proofs.YtcaogllnbpmcgaaDoorW.PrintLast Go.Proofs.YtcaogllnbpmcgaaDoorW.PrintMore
attribute [local go_sem] max2_int min2_int max_two min_two max_three min_three max_four min_four
set_option linter.unusedVariables false
set_option linter.unusedSimpArgs false
def impl_peopleOk.f (a0 : Int) : Option (Bool) := if a0 ≥ 1 then (some (decide (a0 ≤ 4))) else (some false)
theorem impl_peopleOk.calls (a : Int) (r : Bool) (w : World) (h : impl_peopleOk.f a = some r) :
  Calls Tryd.prog 64 #[.int .i64 a] w fun e w' => e = .returned (.bool r) ∧ Drawn0 w w' := by
 have H : (if a ≥ 1 then (some (decide (a ≤ 4))) else (some false)) = some r := h
 clear h
 revert H; refine it_ (dt_e fun b H => ?_) (df_e fun b H => ?_)
 ·obtain rfl := Option.some.inj H
  go_enter Tryd.func64, Tryd.ntmps64
  go_wp2
  go_ret
  exact ⟨sm_, by repeat (first | exact Drawn0.refl _ | apply Drawn0.step)⟩
 obtain rfl := Option.some.inj H
 go_enter Tryd.func64, Tryd.ntmps64
 go_wp2
 go_ret
 exact ⟨sm_, by repeat (first | exact Drawn0.refl _ | apply Drawn0.step)⟩
mutual
def impl_TermOk.j0 : Nat → Int → List (S82) → Bool → Option (Bool)
 | 0, _, _, _ => none
 | k + 1, x0, x1, x20 => if x20 = true then (some false) else (impl_TermOk.l0 k x0 0 x1 (x1.length : Int) 0)
def impl_TermOk.l0 : Nat → Int → Int → List (S82) → Int → Int → Option (Bool)
 | 0, _, _, _, _, _ => none
 | k + 1, x0, x5, x21, x22, x23 => if x23 < x22 then (if 0 ≤ x23 then (if x23 < (x21.length : Int) then (if ((rd_T82 x21 x23).f0) = 0 then (if ((rd_T82 x21 x23).f1) < 0 then (some false) else (if ((rd_T82 x21 x23).f1) ≥ x0 then (some false) else (impl_TermOk.l0 k x0 (wrap64 (x5 + 1)) x21 x22 (wrap64 (x23 + 1))))) else (if ((rd_T82 x21 x23).f0) = 1 then (if ((rd_T82 x21 x23).f1) < 0 then (some false) else (if ((rd_T82 x21 x23).f1) > (wrap64 (x0 + 1)) then (some false) else (impl_TermOk.l0 k x0 (wrap64 (x5 + 1)) x21 x22 (wrap64 (x23 + 1))))) else (if ((rd_T82 x21 x23).f0) = 2 then (if ((rd_T82 x21 x23).f1) = 0 then (if x5 < 1 then (some false) else (impl_TermOk.l0 k x0 x5 x21 x22 (wrap64 (x23 + 1)))) else (some false)) else (if ((rd_T82 x21 x23).f0) = 3 then (impl_TermOk.j2 k x0 x5 x21 x22 x23 (((rd_T82 x21 x23).f0) == 3) ((rd_T82 x21 x23).f0) ((rd_T82 x21 x23).f1)) else (if ((rd_T82 x21 x23).f0) = 4 then (impl_TermOk.j2 k x0 x5 x21 x22 x23 (((rd_T82 x21 x23).f0) == 4) ((rd_T82 x21 x23).f0) ((rd_T82 x21 x23).f1)) else (impl_TermOk.j2 k x0 x5 x21 x22 x23 (((rd_T82 x21 x23).f0) == 5) ((rd_T82 x21 x23).f0) ((rd_T82 x21 x23).f1))))))) else (none)) else (none)) else (some (x5 == 1))
def impl_TermOk.j2 : Nat → Int → Int → List (S82) → Int → Int → Bool → Int → Int → Option (Bool)
 | 0, _, _, _, _, _, _, _, _ => none
 | k + 1, x0, x5, x21, x22, x23, x65, x104000, x104001 => if x65 = true then (if x104001 = 0 then (if x5 < 2 then (some false) else (impl_TermOk.l0 k x0 (wrap64 (x5 - 1)) x21 x22 (wrap64 (x23 + 1)))) else (some false)) else (some false)
end
def impl_TermOk.f (k : Nat) (a0 : Int) (l1 : List (S82)) : Option (Bool) := (impl_peopleOk.f a0).bind fun t101 => (if t101 = true then (if (l1.length : Int) < 1 then (impl_TermOk.j0 k a0 l1 true) else (impl_TermOk.j0 k a0 l1 (decide ((l1.length : Int) > 15)))) else (impl_TermOk.j0 k a0 l1 true))
theorem impl_TermOk.calls (k : Nat) (y : Int) (A1 : Option Addr) (c1 : Nat) (l1 : List (S82)) (r : Bool) (w : World) (aY : Kd.C k82 w A1 l1.length l1) (aZ : l1.length ≤ c1) (h : impl_TermOk.f k y l1 = some r) :
  Calls Tryd.prog 35 #[.int .i64 y, .slice A1 l1.length c1] w fun e w' => e = .returned (.bool r) ∧ Below w.heap.size w w' := by
 have bw := Tryd.underlying82
 have x := mk_ aY
 have bA := mk_ aZ
 clear aY aZ
 have HB := mk_ (Below.refl w.heap.size w)
 unfold impl_TermOk.f at h
 have H := h
 clear h
 have aQ := mk_ H
 clear H
 go_enter Tryd.func35, Tryd.ntmps35
 go_upto_region 1 with (fail)
 go_cut [20] (fun bk wc => ∃ (kq : Nat) (A : Bool), bk = .bool A ∧ Aside0 (impl_TermOk.j0 kq y l1 A = some r) ∧ Aside0 (kq ≤ k) ∧ Aside0 (Below w.heap.size w wc))
 case first =>
  have H := aQ.out
  clear aQ
  revert H; refine bd_ fun bx A4 H => ?_
  try dsimp only at H
  revert H; refine bi_ ?_ ?_ <;> rintro rfl H
  ·have H' := mk_ H
   clear H
   go_wp2_with (first | (refine gc_ 64 (some 9) Tryd.func64 #[.int .i64 y] ?_; (with_reducible refine (impl_peopleOk.calls y false _ A4.out).mono ?_); rintro e w' ⟨rfl, ⟨nd, rfl⟩⟩; refine ⟨_, rfl, ?_⟩))
   go_meet
   case rel => exact ⟨_, (true), sm_, H', ⟨by first | omega | exact Nat.le_refl _⟩, ⟨below_at HB.out⟩⟩
  revert H; refine it_ (fun c6 H => ?_) fun c6 H => ?_
  ·have q : decide ((l1.length : Int) < 1) = true := decide_eq_true c6
   have B : decide (l1.length < 1) = true := decide_eq_true (by omega)
   clear c6
   (first | rw [q] | (simp only [i64_w, i32_w]; rw [q]) | skip)
   have H' := mk_ H
   clear H
   go_wp2_with (first | (refine gc_ 64 (some 9) Tryd.func64 #[.int .i64 y] ?_; (with_reducible refine (impl_peopleOk.calls y true _ A4.out).mono ?_); rintro e w' ⟨rfl, ⟨nd, rfl⟩⟩; refine ⟨_, rfl, ?_⟩))
   go_meet
   case rel => exact ⟨_, (true), sm_, H', ⟨by first | omega | exact Nat.le_refl _⟩, ⟨below_at HB.out⟩⟩
  have q : decide ((l1.length : Int) < 1) = false := decide_eq_false c6
  have B : decide (l1.length < 1) = false := decide_eq_false (by omega)
  clear c6
  (first | rw [q] | (simp only [i64_w, i32_w]; rw [q]) | skip)
  have H' := mk_ H
  clear H
  go_wp2_with (first | (refine gc_ 64 (some 9) Tryd.func64 #[.int .i64 y] ?_; (with_reducible refine (impl_peopleOk.calls y true _ A4.out).mono ?_); rintro e w' ⟨rfl, ⟨nd, rfl⟩⟩; refine ⟨_, rfl, ?_⟩))
  go_meet
  case rel => exact ⟨_, (decide ((l1.length : Int) > 15)), sm_, H', ⟨by first | omega | exact Nat.le_refl _⟩, ⟨below_at HB.out⟩⟩
 clear aQ
 try clear c1
 try clear c6
 try clear q
 try clear B
 obtain ⟨kq, A, rfl, HA, s, HB⟩ := hcut
 cases kq with
 | zero => exact absurd HA.out (by simp [impl_TermOk.j0])
 | succ a1 =>
  have H := HA.out
  clear HA
  simp only [impl_TermOk.j0] at H
  revert H; refine ib_ ?_ ?_ <;> rintro rfl H
  ·obtain rfl := Option.some.inj H
   go_wp2
   go_ret
   exact ⟨er_, below_at HB.out⟩
  have H' := mk_ H
  clear H
  go_wp2
  go_loopg [5, 23] a1 (fun kq v5 bn w' => ∃ (t : Int) (a : Int), v5 = .int .i64 t ∧ bn = .int .i64 a ∧ Aside0 (impl_TermOk.l0 kq y t l1 (l1.length : Int) a = some r) ∧ Aside0 (kq ≤ a1) ∧ Aside0 (Below w.heap.size w w'))
  case atStart => exact ⟨(0), (0), sm_, sm_, H', ⟨Nat.le_refl _⟩, ⟨below_at HB.out⟩⟩
  clear H'
  try clear c1
  try clear c6
  try clear q
  try clear B
  obtain ⟨t, a, rfl, rfl, HA, u, HB⟩ := hrel
  cases gk with
  | zero => exact absurd HA.out (by simp [impl_TermOk.l0])
  | succ k2 =>
   have H := HA.out
   clear HA
   simp only [impl_TermOk.l0] at H
   revert H; refine ti_ (df_ fun aR H => ?_) (dt_ fun aR H => ?_)
   ·obtain rfl := Option.some.inj H
    go_wp2
    go_ret
    exact ⟨er_, below_at HB.out⟩
   revert H; refine g_ (dt_ fun a3 => g_ (dt_ fun aU => it_ (qt_ fun E G H => ?_) (qfk_ fun bo E G H => ?_)))
   ·revert H; refine it_ (dt_ fun I H => ?_) (df_ fun I H => ?_)
    ·obtain rfl := Option.some.inj H
     obtain ⟨m, l, b, c⟩ := at_T82 x.out a oa_ oa_
     cases l
     replace b := cel HB.out b
     replace c := cel HB.out c
     obtain ⟨o, p⟩ := pq_ (a : Int) (l1.length : Int)
     go_wp2_with (first | ((with_reducible refine gate_dst (N := 7) rfl ?_); (try (refine gate_guard (by rfl) ?_; dsimp only)); refine bx_ 7 #[.int .i64 0, .int .i64 0] 82 ?_; intro j hg bB g hb; have d := mk_ (g); have i := gm_ hg HB.out; have n := i; replace HB := hs_ HB hb; clear hb g hg; obtain ⟨Z, aa, ab, ac⟩ := b2_ d))
     go_ret
     exact ⟨er_, at_ HB.out⟩
    revert H; refine it_ (dt_ fun (c15b0 : decide (y ≤ ((rd_T82 l1 a).f1)) = true) H => ?_) (df_ fun (c15b0 : decide (y ≤ ((rd_T82 l1 a).f1)) = false) H => ?_)
    ·obtain rfl := Option.some.inj H
     obtain ⟨m, l, b, c⟩ := at_T82 x.out a oa_ oa_
     cases l
     replace b := cel HB.out b
     replace c := cel HB.out c
     obtain ⟨o, p⟩ := pq_ (a : Int) (l1.length : Int)
     go_wp2_with (first | ((with_reducible refine gate_dst (N := 7) rfl ?_); (try (refine gate_guard (by rfl) ?_; dsimp only)); refine bx_ 7 #[.int .i64 0, .int .i64 0] 82 ?_; intro j hg bC g hb; have d := mk_ (g); have i := gm_ hg HB.out; have n := i; replace HB := hs_ HB hb; clear hb g hg; obtain ⟨ad, ae, af, ag⟩ := b2_ d))
     go_ret
     exact ⟨er_, at_ HB.out⟩
    have H' := mk_ H
    clear H
    obtain ⟨m, l, b, c⟩ := at_T82 x.out a oa_ oa_
    cases l
    replace b := cel HB.out b
    replace c := cel HB.out c
    obtain ⟨o, p⟩ := pq_ (a : Int) (l1.length : Int)
    go_wp2_with (first | ((with_reducible refine gate_dst (N := 7) rfl ?_); (try (refine gate_guard (by rfl) ?_; dsimp only)); refine bx_ 7 #[.int .i64 0, .int .i64 0] 82 ?_; intro j hg bD g hb; have d := mk_ (g); have i := gm_ hg HB.out; have n := i; replace HB := hs_ HB hb; clear hb g hg; obtain ⟨ah, ai, aj, ak⟩ := b2_ d))
    go_roundg k2
    case measure => have := s.out; have := u.out; omega
    case rel => exact ⟨(wrap64 (t + 1)), (wrap64 (a + 1)), sm_, sm_, H', ⟨by have := s.out; have := u.out; omega⟩, ⟨at_ HB.out⟩⟩
   revert H; refine it_ (qt_ fun J K H => ?_) (qfk_ fun bp J K H => ?_)
   ·revert H; refine it_ (dt_ fun L H => ?_) (df_ fun L H => ?_)
    ·obtain rfl := Option.some.inj H
     obtain ⟨m, l, b, c⟩ := at_T82 x.out a oa_ oa_
     cases l
     replace b := cel HB.out b
     replace c := cel HB.out c
     obtain ⟨o, p⟩ := pq_ (a : Int) (l1.length : Int)
     go_wp2_with (first | ((with_reducible refine gate_dst (N := 7) rfl ?_); (try (refine gate_guard (by rfl) ?_; dsimp only)); refine bx_ 7 #[.int .i64 0, .int .i64 0] 82 ?_; intro j hg bE g hb; have d := mk_ (g); have i := gm_ hg HB.out; have n := i; replace HB := hs_ HB hb; clear hb g hg; obtain ⟨al, am, an, ao⟩ := b2_ d))
     go_ret
     exact ⟨er_, at_ HB.out⟩
    revert H; refine it_ (dt_ fun (c24b0 : decide ((wrap64 (y + 1)) < ((rd_T82 l1 a).f1)) = true) H => ?_) (df_ fun (c24b0 : decide ((wrap64 (y + 1)) < ((rd_T82 l1 a).f1)) = false) H => ?_)
    ·obtain rfl := Option.some.inj H
     obtain ⟨m, l, b, c⟩ := at_T82 x.out a oa_ oa_
     cases l
     replace b := cel HB.out b
     replace c := cel HB.out c
     obtain ⟨o, p⟩ := pq_ (a : Int) (l1.length : Int)
     go_wp2_with (first | ((with_reducible refine gate_dst (N := 7) rfl ?_); (try (refine gate_guard (by rfl) ?_; dsimp only)); refine bx_ 7 #[.int .i64 0, .int .i64 0] 82 ?_; intro j hg bF g hb; have d := mk_ (g); have i := gm_ hg HB.out; have n := i; replace HB := hs_ HB hb; clear hb g hg; obtain ⟨ap, aq, ar, au⟩ := b2_ d))
     go_ret
     exact ⟨er_, at_ HB.out⟩
    have H' := mk_ H
    clear H
    obtain ⟨m, l, b, c⟩ := at_T82 x.out a oa_ oa_
    cases l
    replace b := cel HB.out b
    replace c := cel HB.out c
    obtain ⟨o, p⟩ := pq_ (a : Int) (l1.length : Int)
    go_wp2_with (first | ((with_reducible refine gate_dst (N := 7) rfl ?_); (try (refine gate_guard (by rfl) ?_; dsimp only)); refine bx_ 7 #[.int .i64 0, .int .i64 0] 82 ?_; intro j hg bG g hb; have d := mk_ (g); have i := gm_ hg HB.out; have n := i; replace HB := hs_ HB hb; clear hb g hg; obtain ⟨av, aw, ax, ay⟩ := b2_ d))
    go_roundg k2
    case measure => have := s.out; have := u.out; omega
    case rel => exact ⟨(wrap64 (t + 1)), (wrap64 (a + 1)), sm_, sm_, H', ⟨by have := s.out; have := u.out; omega⟩, ⟨at_ HB.out⟩⟩
   revert H; refine it_ (qt_ fun M O H => ?_) (qfk_ fun bq M O H => ?_)
   ·revert H; refine ti_ (qfk_ fun br P T H => ?_) (qt_ fun P T H => ?_)
    ·obtain rfl := Option.some.inj H
     obtain ⟨m, l, b, c⟩ := at_T82 x.out a oa_ oa_
     cases l
     replace b := cel HB.out b
     replace c := cel HB.out c
     obtain ⟨o, p⟩ := pq_ (a : Int) (l1.length : Int)
     go_wp2_with (first | ((with_reducible refine gate_dst (N := 7) rfl ?_); (try (refine gate_guard (by rfl) ?_; dsimp only)); refine bx_ 7 #[.int .i64 0, .int .i64 0] 82 ?_; intro j hg bH g hb; have d := mk_ (g); have i := gm_ hg HB.out; have n := i; replace HB := hs_ HB hb; clear hb g hg; obtain ⟨az, aA, aB, aC⟩ := b2_ d))
     go_ret
     exact ⟨er_, at_ HB.out⟩
    revert H; refine it_ (dt_ fun U H => ?_) (df_ fun U H => ?_)
    ·obtain rfl := Option.some.inj H
     obtain ⟨m, l, b, c⟩ := at_T82 x.out a oa_ oa_
     cases l
     replace b := cel HB.out b
     replace c := cel HB.out c
     obtain ⟨o, p⟩ := pq_ (a : Int) (l1.length : Int)
     go_wp2_with (first | ((with_reducible refine gate_dst (N := 7) rfl ?_); (try (refine gate_guard (by rfl) ?_; dsimp only)); refine bx_ 7 #[.int .i64 0, .int .i64 0] 82 ?_; intro j hg bI g hb; have d := mk_ (g); have i := gm_ hg HB.out; have n := i; replace HB := hs_ HB hb; clear hb g hg; obtain ⟨aD, aE, aF, aG⟩ := b2_ d))
     go_ret
     exact ⟨er_, at_ HB.out⟩
    have H' := mk_ H
    clear H
    obtain ⟨m, l, b, c⟩ := at_T82 x.out a oa_ oa_
    cases l
    replace b := cel HB.out b
    replace c := cel HB.out c
    obtain ⟨o, p⟩ := pq_ (a : Int) (l1.length : Int)
    go_wp2_with (first | ((with_reducible refine gate_dst (N := 7) rfl ?_); (try (refine gate_guard (by rfl) ?_; dsimp only)); refine bx_ 7 #[.int .i64 0, .int .i64 0] 82 ?_; intro j hg bJ g hb; have d := mk_ (g); have i := gm_ hg HB.out; have n := i; replace HB := hs_ HB hb; clear hb g hg; obtain ⟨aH, aI, aJ, aK⟩ := b2_ d))
    go_roundg k2
    case measure => have := s.out; have := u.out; omega
    case rel => exact ⟨(t), (wrap64 (a + 1)), sm_, sm_, H', ⟨by have := s.out; have := u.out; omega⟩, ⟨at_ HB.out⟩⟩
   have D := mk_ H
   clear H
   obtain ⟨m, l, b, c⟩ := at_T82 x.out a oa_ oa_
   cases l
   replace b := cel HB.out b
   replace c := cel HB.out c
   obtain ⟨o, p⟩ := pq_ (a : Int) (l1.length : Int)
   go_upto_if 65 with (first | ((with_reducible refine gate_dst (N := 7) rfl ?_); (try (refine gate_guard (by rfl) ?_; dsimp only)); refine bx_ 7 #[.int .i64 0, .int .i64 0] 82 ?_; intro j hg bK g hb; have d := mk_ (g); have i := gm_ hg HB.out; have n := i; replace HB := hs_ HB hb; clear hb g hg; obtain ⟨aL, aM, aN, aO⟩ := b2_ d))
   (try simp only [Act.put, z0_, z1_, z2_])
   go_cut [65] (fun bs wc => ∃ (kq : Nat) (z : Bool), bs = .bool z ∧ Aside0 (impl_TermOk.j2 kq y t l1 (l1.length : Int) a z ((rd_T82 l1 a).f0) ((rd_T82 l1 a).f1) = some r) ∧ Aside0 (kq ≤ k2) ∧ Aside0 (wc.heap[j]? = some (.cells #[.int .i64 ((rd_T82 l1 a).f0), .int .i64 ((rd_T82 l1 a).f1)] 82 (0, 0))) ∧ Aside0 (Below w.heap.size w wc))
   case first =>
    have H := D.out
    clear D
    revert H; refine it_ (qt_ fun v W H => ?_) (qfk_ fun bu v W H => ?_)
    ·(first | rw [v] | (simp only [i64_w, i32_w]; rw [v]) | skip)
     have H' := mk_ H
     clear H
     go_wp2
     go_meet
     case rel => exact ⟨_, ((((rd_T82 l1 a).f0) == 3)), sm_, H', ⟨by have := s.out; have := u.out; first | omega | exact Nat.le_refl _⟩, ⟨by refine bs_ ?_; refine blk_put (cs := #[.int .i64 ((rd_T82 l1 a).f0), .int .i64 0]) ?_ 1 _ rfl; refine bs_ ?_; refine blk_put (cs := #[.int .i64 0, .int .i64 0]) ?_ 0 _ rfl; refine bs_ ?_; exact d.out⟩, ⟨at_ HB.out⟩⟩
    (first | rw [v] | (simp only [i64_w, i32_w]; rw [v]) | skip)
    revert H; refine it_ (qt_ fun X Y H => ?_) (qfk_ fun bv X Y H => ?_)
    ·have H' := mk_ H
     clear H
     go_wp2
     go_meet
     case rel => exact ⟨_, ((((rd_T82 l1 a).f0) == 4)), sm_, H', ⟨by have := s.out; have := u.out; first | omega | exact Nat.le_refl _⟩, ⟨by refine bs_ ?_; refine blk_put (cs := #[.int .i64 ((rd_T82 l1 a).f0), .int .i64 0]) ?_ 1 _ rfl; refine bs_ ?_; refine blk_put (cs := #[.int .i64 0, .int .i64 0]) ?_ 0 _ rfl; refine bs_ ?_; exact d.out⟩, ⟨at_ HB.out⟩⟩
    have H' := mk_ H
    clear H
    go_wp2
    go_meet
    case rel => exact ⟨_, ((((rd_T82 l1 a).f0) == 5)), sm_, H', ⟨by have := s.out; have := u.out; first | omega | exact Nat.le_refl _⟩, ⟨by refine bs_ ?_; refine blk_put (cs := #[.int .i64 ((rd_T82 l1 a).f0), .int .i64 0]) ?_ 1 _ rfl; refine bs_ ?_; refine blk_put (cs := #[.int .i64 0, .int .i64 0]) ?_ 0 _ rfl; refine bs_ ?_; exact d.out⟩, ⟨at_ HB.out⟩⟩
   clear D
   try clear c1
   try clear c6
   try clear q
   try clear B
   try clear aR
   try clear a3
   try clear aU
   try clear bo
   try clear E
   try clear G
   try clear I
   try clear c15b0
   try clear bp
   try clear J
   try clear K
   try clear L
   try clear c24b0
   try clear bq
   try clear M
   try clear O
   try clear br
   try clear P
   try clear T
   try clear U
   try clear bu
   try clear v
   try clear W
   try clear bv
   try clear X
   try clear Y
   try clear Z
   try clear aa
   try clear ad
   try clear ae
   try clear ah
   try clear ai
   try clear al
   try clear am
   try clear ap
   try clear aq
   try clear av
   try clear aw
   try clear aD
   try clear aE
   try clear aH
   try clear aI
   try clear az
   try clear aA
   try clear aL
   try clear aM
   try clear ab
   try clear ac
   try clear af
   try clear ag
   try clear aj
   try clear ak
   try clear an
   try clear ao
   try clear ar
   try clear au
   try clear ax
   try clear ay
   try clear aF
   try clear aG
   try clear aJ
   try clear aK
   try clear aB
   try clear aC
   try clear aN
   try clear aO
   try clear b
   try clear c
   try clear o
   try clear p
   obtain ⟨kq, z, rfl, HA, aS, d, HB⟩ := hcut
   cases kq with
   | zero => exact absurd HA.out (by simp [impl_TermOk.j2])
   | succ a4 =>
    have H := HA.out
    clear HA
    simp only [impl_TermOk.j2] at H
    revert H; refine bi_ ?_ ?_ <;> rintro rfl H
    ·obtain rfl := Option.some.inj H
     go_wp2
     go_ret
     exact ⟨er_, at_ HB.out⟩
    revert H; refine ti_ (qfk_ fun bL aV aW H => ?_) (qt_ fun aV aW H => ?_)
    ·obtain rfl := Option.some.inj H
     have a5 : wc.cell? ⟨j, 0, none⟩ = some (.int .i64 ((rd_T82 l1 a).f0)) := (blk_cell d.out 0).trans rfl
     have a6 : wc.cell? ⟨j, 1, none⟩ = some (.int .i64 ((rd_T82 l1 a).f1)) := (blk_cell d.out 1).trans rfl
     have a7 := blk_frozen d.out 0
     have a8 := blk_frozen d.out 1
     go_wp2
     go_ret
     exact ⟨er_, at_ HB.out⟩
    revert H; refine it_ (dt_ fun aX H => ?_) (df_ fun aX H => ?_)
    ·obtain rfl := Option.some.inj H
     have a9 : wc.cell? ⟨j, 0, none⟩ = some (.int .i64 ((rd_T82 l1 a).f0)) := (blk_cell d.out 0).trans rfl
     have ba : wc.cell? ⟨j, 1, none⟩ = some (.int .i64 ((rd_T82 l1 a).f1)) := (blk_cell d.out 1).trans rfl
     have bb := blk_frozen d.out 0
     have bc := blk_frozen d.out 1
     go_wp2
     go_ret
     exact ⟨er_, at_ HB.out⟩
    have H' := mk_ H
    clear H
    have be : wc.cell? ⟨j, 0, none⟩ = some (.int .i64 ((rd_T82 l1 a).f0)) := (blk_cell d.out 0).trans rfl
    have bf : wc.cell? ⟨j, 1, none⟩ = some (.int .i64 ((rd_T82 l1 a).f1)) := (blk_cell d.out 1).trans rfl
    have bg := blk_frozen d.out 0
    have bh := blk_frozen d.out 1
    go_wp2
    go_roundg a4
    case measure => have := s.out; have := u.out; have := aS.out; omega
    case rel => exact ⟨(wrap64 (t - 1)), (wrap64 (a + 1)), sm_, sm_, H', ⟨by have := s.out; have := u.out; have := aS.out; omega⟩, ⟨at_ HB.out⟩⟩
def impl_ClaimOk.f (k : Nat) (a0 : Int) (a1_0 : Int) (l1_1 : List (S82)) : Option (Bool) := (impl_peopleOk.f a0).bind fun t105 => (if t105 = true then (if a1_0 ≥ 0 then (if a1_0 < a0 then ((impl_TermOk.f k a0 l1_1).bind fun t106 => (if t106 = true then (some (decide ((l1_1.length : Int) ≤ 13))) else (some false))) else (some false)) else (some false)) else (some false))
theorem impl_ClaimOk.calls (k : Nat) (l : Int) (g : Int) (i : Option Addr) (j : Nat) (c : List (S82)) (r : Bool) (w : World) (o : Kd.C k82 w i c.length c) (p : c.length ≤ j) (h : impl_ClaimOk.f k l g c = some r) :
  Calls Tryd.prog 63 #[.int .i64 l, .agg #[.int .i64 g, .slice i c.length j]] w fun e w' => e = .returned (.bool r) ∧ Below w.heap.size w w' := by
 have aa := Tryd.underlying79
 have q := mk_ o
 have s := mk_ p
 clear o p
 have HB := mk_ (Below.refl w.heap.size w)
 unfold impl_ClaimOk.f at h
 have H := h
 clear h
 revert H; refine bd_ fun ab t H => ?_
 try dsimp only at H
 revert H; refine bi_ ?_ ?_ <;> rintro rfl H
 ·obtain rfl := Option.some.inj H
  go_enter Tryd.func63, Tryd.ntmps63
  go_wp2_with (first | ((with_reducible refine gate_dst (N := 3) rfl ?_); (try (refine gate_guard (by rfl) ?_; dsimp only)); refine bx_ 3 #[.int .i64 g, .slice i c.length j] 79 ?_; intro m hg ad b hb; have d := gm_ hg HB.out; have n := d; replace HB := hs_ HB hb; clear hb b hg) | (refine gc_ 64 (some 6) Tryd.func64 #[.int .i64 l] ?_; (with_reducible refine (impl_peopleOk.calls l false _ t.out).mono ?_); rintro e w' ⟨rfl, ⟨nd, rfl⟩⟩; refine ⟨_, rfl, ?_⟩))
  go_ret
  exact ⟨er_, at_ HB.out⟩
 revert H; refine ti_ (df_e fun u H => ?_) (dt_e fun u H => ?_)
 ·obtain rfl := Option.some.inj H
  go_enter Tryd.func63, Tryd.ntmps63
  go_wp2_with (first | ((with_reducible refine gate_dst (N := 3) rfl ?_); (try (refine gate_guard (by rfl) ?_; dsimp only)); refine bx_ 3 #[.int .i64 g, .slice i c.length j] 79 ?_; intro m hg ae b hb; have a := mk_ (b); have d := gm_ hg HB.out; have n := d; replace HB := hs_ HB hb; clear hb b hg) | (refine gc_ 64 (some 6) Tryd.func64 #[.int .i64 l] ?_; (with_reducible refine (impl_peopleOk.calls l true _ t.out).mono ?_); rintro e w' ⟨rfl, ⟨nd, rfl⟩⟩; refine ⟨_, rfl, ?_⟩; obtain ⟨x, y, z, A⟩ := b2_ a))
  go_ret
  exact ⟨er_, at_ HB.out⟩
 revert H; refine ti_ (df_ fun v H => ?_) (dt_ fun v H => ?_)
 ·obtain rfl := Option.some.inj H
  go_enter Tryd.func63, Tryd.ntmps63
  go_wp2_with (first | ((with_reducible refine gate_dst (N := 3) rfl ?_); (try (refine gate_guard (by rfl) ?_; dsimp only)); refine bx_ 3 #[.int .i64 g, .slice i c.length j] 79 ?_; intro m hg af b hb; have a := mk_ (b); have d := gm_ hg HB.out; have n := d; replace HB := hs_ HB hb; clear hb b hg) | (refine gc_ 64 (some 6) Tryd.func64 #[.int .i64 l] ?_; (with_reducible refine (impl_peopleOk.calls l true _ t.out).mono ?_); rintro e w' ⟨rfl, ⟨nd, rfl⟩⟩; refine ⟨_, rfl, ?_⟩; obtain ⟨B, D, E, G⟩ := b2_ a))
  go_ret
  exact ⟨er_, at_ HB.out⟩
 revert H; refine bd_ fun ac Z H => ?_
 try dsimp only at H
 revert H; refine ib_ ?_ ?_ <;> rintro rfl H
 ·obtain rfl := Option.some.inj H
  go_enter Tryd.func63, Tryd.ntmps63
  go_wp2_with (first | ((with_reducible refine gate_dst (N := 3) rfl ?_); (try (refine gate_guard (by rfl) ?_; dsimp only)); refine bx_ 3 #[.int .i64 g, .slice i c.length j] 79 ?_; intro m hg w9 b hb; have a := mk_ (b); have d := gm_ hg HB.out; have n := d; replace HB := hs_ HB hb; clear hb b hg) | (refine gc_ 64 (some 6) Tryd.func64 #[.int .i64 l] ?_; (with_reducible refine (impl_peopleOk.calls l true _ t.out).mono ?_); rintro e w' ⟨rfl, ⟨nd, rfl⟩⟩; refine ⟨_, rfl, ?_⟩; obtain ⟨I, J, K, L⟩ := b2_ a) | (go_at_call 35; (with_reducible refine (impl_TermOk.calls k l _ _ c true _ ?side1 ?side2 Z.out).mono ?_); (case side1 => repeat (first | exact (Kd.C_below q.out (at_ HB.out)) | (with_reducible refine Kd.C_alloc ?_ _) | (with_reducible refine Kd.C_drewN ?_ _) | (with_reducible refine Kd.C_drew ?_))); (case side2 => exact s.out); rintro e ag ⟨rfl, hb⟩; replace a := mk_ (blk_at a.out hb); replace HB := ht_ HB hb; (try clear hb); obtain ⟨M, O, P, T⟩ := b2_ a))
  go_ret
  exact ⟨er_, at_ HB.out⟩
 obtain rfl := Option.some.inj H
 go_enter Tryd.func63, Tryd.ntmps63
 go_wp2_with (first | ((with_reducible refine gate_dst (N := 3) rfl ?_); (try (refine gate_guard (by rfl) ?_; dsimp only)); refine bx_ 3 #[.int .i64 g, .slice i c.length j] 79 ?_; intro m hg ah b hb; have a := mk_ (b); have d := gm_ hg HB.out; have n := d; replace HB := hs_ HB hb; clear hb b hg) | (refine gc_ 64 (some 6) Tryd.func64 #[.int .i64 l] ?_; (with_reducible refine (impl_peopleOk.calls l true _ t.out).mono ?_); rintro e w' ⟨rfl, ⟨nd, rfl⟩⟩; refine ⟨_, rfl, ?_⟩; obtain ⟨U, W, X, Y⟩ := b2_ a) | (go_at_call 35; (with_reducible refine (impl_TermOk.calls k l _ _ c false _ ?side1 ?side2 Z.out).mono ?_); (case side1 => repeat (first | exact (Kd.C_below q.out (at_ HB.out)) | (with_reducible refine Kd.C_alloc ?_ _) | (with_reducible refine Kd.C_drewN ?_ _) | (with_reducible refine Kd.C_drew ?_))); (case side2 => exact s.out); rintro e ai ⟨rfl, hb⟩; replace HB := ht_ HB hb; (try clear a); (try clear hb)))
 go_ret
 exact ⟨er_, at_ HB.out⟩
end Go.Proofs.YtcaogllnbpmcgaaDoor.P

/- Go's functions come to just the answers of the Lean functions told here. -/
import Derived.Test.YtcaogllnbpmcgaaDoorPx20
import Derived.Test.YtcaogllnbpmcgaaDoorPx21
set_option maxHeartbeats 8000000
set_option maxRecDepth 100000
namespace Go.Proofs.YtcaogllnbpmcgaaDoor.P
open Go.RowKit Go.Proofs.YtcaogllnbpmcgaaDoorW.PrintWords Go.Proofs.YtcaogllnbpmcgaaDoorW.PrintLast Go.Proofs.YtcaogllnbpmcgaaDoorW.PrintMore
attribute [local go_sem] max2_int min2_int max_two min_two max_three min_three max_four min_four
set_option linter.unusedVariables false
set_option linter.unusedSimpArgs false
mutual
def spec_ProofOk.j0 : Nat → Int → List (S79) → List (S82) → Bool → Int → List (S68) → Option (Bool)
 | 0, _, _, _, _, _, _ => none
 | k + 1, x0, x1, x2, x42, x260000, x260001 => if x42 = true then (some false) else ((spec_l11Nothing.f k x0).bind fun t262 => ((spec_l11Checks.f k x0 x1 x2 x260000 x260001 x260000 t262).bind fun bt265 => (if bt265.2 = true then (if bt265.1 = (x260001.length : Int) then ((spec_l11Once.f k x260000 x260001).bind fun t267 => (spec_ProofOk.j1 k t267)) else (spec_ProofOk.j1 k false)) else (spec_ProofOk.j1 k false))))
def spec_ProofOk.j1 : Nat → Bool → Option (Bool)
 | 0, _ => none
 | k + 1, x8 => some x8
end
def spec_ProofOk.f (k : Nat) (a0 : Int) (l1 : List (S79)) (l2 : List (S82)) (a3_0 : Int) (l3_1 : List (S68)) : Option (Bool) := (spec_StoryOk.f k a0 l1).bind fun t260 => (if t260 = true then ((spec_TermOk.f k a0 l2).bind fun t261 => (if t261 = true then (if (l3_1.length : Int) > 15 then (spec_ProofOk.j0 k a0 l1 l2 true a3_0 l3_1) else (if a3_0 > 0 then (spec_ProofOk.j0 k a0 l1 l2 true a3_0 l3_1) else (if a3_0 = 0 then (spec_ProofOk.j0 k a0 l1 l2 ((l3_1.length : Int) == 0) a3_0 l3_1) else (spec_ProofOk.j0 k a0 l1 l2 false a3_0 l3_1)))) else (spec_ProofOk.j0 k a0 l1 l2 true a3_0 l3_1))) else (spec_ProofOk.j0 k a0 l1 l2 true a3_0 l3_1))
def spec_ProofOk.T3 : Bool × List (List Nat × List Nat) := (true, [([], []), ([], []), ([], []), ([], []), ([], []), ([4], [4]), ([], []), ([6], [6]), ([0, 1, 2, 3, 5, 7, 7], [0, 1, 2, 3, 5, 7]), ([8], [8]), ([9], [9]), ([9], [9]), ([10, 8, 0, 1, 2, 3, 4, 5, 6, 7, 8, 9, 10], [10]), ([11, 12, 0, 1, 2, 3, 4, 5, 6, 7, 8, 9, 10, 11, 12], [11])])
def spec_ProofOk.B3 : List Nat := [0, 0, 0, 0, 0, 16, 0, 64, 255, 511, 1023, 1023, 2047, 8191]
theorem spec_ProofOk.tab3 : rtab .any (opsOf Tryd.f32 3) = spec_ProofOk.T3 := by kernel_rfl
theorem spec_ProofOk.bits3 : waitsOk spec_ProofOk.T3.2 spec_ProofOk.B3 = true := by kernel_rfl
theorem spec_ProofOk.calls (k : Nat) (d : Int) (Z : Option Addr) (t : Nat) (l1 : List (S79)) (A2 : Option Addr) (c2 : Nat) (q : List (S82)) (c : Int) (l : Option Addr) (m : Nat) (b : List (S68)) (r : Bool) (w : World) (aH : Kd.C k79 w Z l1.length l1) (aI : l1.length ≤ t) (aJ : Kd.C k82 w A2 q.length q) (aK : q.length ≤ c2) (ak : Kd.C k68 w l b.length b) (al : b.length ≤ m) (h : spec_ProofOk.f k d l1 q c b = some r) :
  Calls Tryd.prog 32 #[.int .i64 d, .slice Z l1.length t, .slice A2 q.length c2, .agg #[.int .i64 c, .slice l b.length m]] w fun e w' => e = .returned (.bool r) ∧ Below w.heap.size w w' := by
 have a2 := Tryd.underlying27
 have u := mk_ aH
 have v := mk_ aI
 clear aH aI
 have y := mk_ aJ
 have z := mk_ aK
 clear aJ aK
 have am := mk_ ak
 have an := mk_ al
 clear ak al
 have HB := mk_ (Below.refl w.heap.size w)
 unfold spec_ProofOk.f at h
 have H := h
 clear h
 have aA := mk_ H
 clear H
 go_enter Tryd.func32, Tryd.ntmps32
 go_upto_region 1 with (first | ((with_reducible refine gate_dst (N := 7) rfl ?_); (try (refine gate_guard (by rfl) ?_; dsimp only)); refine bx_ 7 #[.int .i64 c, .slice l b.length m] 27 ?_; intro s hg w6 aB hb; have a := mk_ (aB); have aG := gm_ hg HB.out; have a1 := aG; replace HB := hs_ HB hb; clear hb aB hg))
 (try simp only [Act.put, z0_, z1_, z2_])
 go_cut [42] (fun aT wc => ∃ (kq : Nat) (aa : Bool), aT = .bool aa ∧ Aside0 (spec_ProofOk.j0 kq d l1 q aa c b = some r) ∧ Aside0 (kq ≤ k) ∧ Aside0 (wc.heap[s]? = some (.cells #[.int .i64 c, (.slice l b.length m)] 27 (0, 0))) ∧ Aside0 (Below w.heap.size w wc))
 case first =>
  have H := aA.out
  clear aA
  revert H; refine bd_ fun a3 A7 H => ?_
  try dsimp only at H
  revert H; refine bi_ ?_ ?_ <;> rintro rfl H
  ·have H' := mk_ H
   clear H
   go_wp2_with (first | ((with_reducible refine gate_callee (f := 57) rfl ?_); refine gc_ 57 (some 13) Tryd.func57 #[.int .i64 d, .slice Z l1.length t] ?_; (with_reducible refine mo_ (spec_StoryOk.calls k d _ _ l1 false _ ?side1 ?side2 A7.out) ?_); (case side1 => exact Kd.C_below (Kd.C_below u.out HB.out) lt_); (case side2 => exact v.out); intro a9 hb; replace a := mk_ (blk_at a.out hb); replace HB := ht_ HB hb; (try clear hb)))
   go_meet
   case rel => exact ⟨_, (true), sm_, H', ⟨by first | omega | exact Nat.le_refl _⟩, ⟨by refine bs_ ?_; exact a.out⟩, ⟨at_ HB.out⟩⟩
  revert H; refine bd_ fun a4 A9 H => ?_
  try dsimp only at H
  revert H; refine bi_ ?_ ?_ <;> rintro rfl H
  ·have H' := mk_ H
   clear H
   go_wp2_with (first | ((with_reducible refine gate_callee (f := 57) rfl ?_); refine gc_ 57 (some 13) Tryd.func57 #[.int .i64 d, .slice Z l1.length t] ?_; (with_reducible refine mo_ (spec_StoryOk.calls k d _ _ l1 true _ ?side1 ?side2 A7.out) ?_); (case side1 => exact Kd.C_below (Kd.C_below u.out HB.out) lt_); (case side2 => exact v.out); intro ba hb; replace a := mk_ (blk_at a.out hb); replace HB := ht_ HB hb; (try clear hb)) | (go_at_call 58; (with_reducible refine (spec_TermOk.calls k d _ _ q false _ ?side1 ?side2 A9.out).mono ?_); (case side1 => exact Kd.C_below (Kd.C_below y.out HB.out) lt_); (case side2 => exact z.out); rintro e w' ⟨rfl, ⟨nd, rfl⟩⟩))
   go_meet
   case rel => exact ⟨_, (true), sm_, H', ⟨by first | omega | exact Nat.le_refl _⟩, ⟨by refine bs_ ?_; exact a.out⟩, ⟨at_ HB.out⟩⟩
  revert H; refine it_ (fun x H => ?_) fun x H => ?_
  ·have i : decide (15 < (b.length : Int)) = true := decide_eq_true x
   have ab : decide (15 < b.length) = true := decide_eq_true (by omega)
   clear x
   (first | rw [i] | (simp only [i64_w, i32_w]; rw [i]) | skip)
   have H' := mk_ H
   clear H
   go_wp2_with (first | ((with_reducible refine gate_callee (f := 57) rfl ?_); refine gc_ 57 (some 13) Tryd.func57 #[.int .i64 d, .slice Z l1.length t] ?_; (with_reducible refine mo_ (spec_StoryOk.calls k d _ _ l1 true _ ?side1 ?side2 A7.out) ?_); (case side1 => exact Kd.C_below (Kd.C_below u.out HB.out) lt_); (case side2 => exact v.out); intro bb hb; replace a := mk_ (blk_at a.out hb); replace HB := ht_ HB hb; (try clear hb)) | (go_at_call 58; (with_reducible refine (spec_TermOk.calls k d _ _ q true _ ?side1 ?side2 A9.out).mono ?_); (case side1 => exact Kd.C_below (Kd.C_below y.out HB.out) lt_); (case side2 => exact z.out); rintro e w' ⟨rfl, ⟨nd, rfl⟩⟩; obtain ⟨A, B, D, E⟩ := b2_ a))
   go_meet
   case rel => exact ⟨_, (true), sm_, H', ⟨by first | omega | exact Nat.le_refl _⟩, ⟨by refine bs_ ?_; exact a.out⟩, ⟨at_ HB.out⟩⟩
  have i : decide (15 < (b.length : Int)) = false := decide_eq_false x
  have ab : decide (15 < b.length) = false := decide_eq_false (by omega)
  clear x
  (first | rw [i] | (simp only [i64_w, i32_w]; rw [i]) | skip)
  revert H; refine it_ (dt_g fun ac H => ?_) (df_g fun ac H => ?_)
  ·have H' := mk_ H
   clear H
   go_wp2_with (first | ((with_reducible refine gate_callee (f := 57) rfl ?_); refine gc_ 57 (some 13) Tryd.func57 #[.int .i64 d, .slice Z l1.length t] ?_; (with_reducible refine mo_ (spec_StoryOk.calls k d _ _ l1 true _ ?side1 ?side2 A7.out) ?_); (case side1 => exact Kd.C_below (Kd.C_below u.out HB.out) lt_); (case side2 => exact v.out); intro bc hb; replace a := mk_ (blk_at a.out hb); replace HB := ht_ HB hb; (try clear hb)) | (go_at_call 58; (with_reducible refine (spec_TermOk.calls k d _ _ q true _ ?side1 ?side2 A9.out).mono ?_); (case side1 => exact Kd.C_below (Kd.C_below y.out HB.out) lt_); (case side2 => exact z.out); rintro e w' ⟨rfl, ⟨nd, rfl⟩⟩; obtain ⟨G, I, J, L⟩ := b2_ a))
   go_meet
   case rel => exact ⟨_, (true), sm_, H', ⟨by first | omega | exact Nat.le_refl _⟩, ⟨by refine bs_ ?_; exact a.out⟩, ⟨at_ HB.out⟩⟩
  revert H; refine it_ (qt_ fun ad ae H => ?_) (qfk_ fun aL ad ae H => ?_)
  ·have H' := mk_ H
   clear H
   go_wp2_with (first | ((with_reducible refine gate_callee (f := 57) rfl ?_); refine gc_ 57 (some 13) Tryd.func57 #[.int .i64 d, .slice Z l1.length t] ?_; (with_reducible refine mo_ (spec_StoryOk.calls k d _ _ l1 true _ ?side1 ?side2 A7.out) ?_); (case side1 => exact Kd.C_below (Kd.C_below u.out HB.out) lt_); (case side2 => exact v.out); intro be hb; replace a := mk_ (blk_at a.out hb); replace HB := ht_ HB hb; (try clear hb)) | (go_at_call 58; (with_reducible refine (spec_TermOk.calls k d _ _ q true _ ?side1 ?side2 A9.out).mono ?_); (case side1 => exact Kd.C_below (Kd.C_below y.out HB.out) lt_); (case side2 => exact z.out); rintro e w' ⟨rfl, ⟨nd, rfl⟩⟩; obtain ⟨M, O, P, T⟩ := b2_ a))
   go_meet
   case rel => exact ⟨_, (((b.length : Int) == 0)), sm_, H', ⟨by first | omega | exact Nat.le_refl _⟩, ⟨by refine bs_ ?_; exact a.out⟩, ⟨at_ HB.out⟩⟩
  have H' := mk_ H
  clear H
  go_wp2_with (first | ((with_reducible refine gate_callee (f := 57) rfl ?_); refine gc_ 57 (some 13) Tryd.func57 #[.int .i64 d, .slice Z l1.length t] ?_; (with_reducible refine mo_ (spec_StoryOk.calls k d _ _ l1 true _ ?side1 ?side2 A7.out) ?_); (case side1 => exact Kd.C_below (Kd.C_below u.out HB.out) lt_); (case side2 => exact v.out); intro bf hb; replace a := mk_ (blk_at a.out hb); replace HB := ht_ HB hb; (try clear hb)) | (go_at_call 58; (with_reducible refine (spec_TermOk.calls k d _ _ q true _ ?side1 ?side2 A9.out).mono ?_); (case side1 => exact Kd.C_below (Kd.C_below y.out HB.out) lt_); (case side2 => exact z.out); rintro e w' ⟨rfl, ⟨nd, rfl⟩⟩; obtain ⟨U, W, X, Y⟩ := b2_ a))
  go_meet
  case rel => exact ⟨_, (false), sm_, H', ⟨by first | omega | exact Nat.le_refl _⟩, ⟨by refine bs_ ?_; exact a.out⟩, ⟨at_ HB.out⟩⟩
 clear aA
 try clear t
 try clear c2
 try clear x
 try clear i
 try clear ab
 try clear ac
 try clear aL
 try clear ad
 try clear ae
 try clear A
 try clear B
 try clear G
 try clear I
 try clear M
 try clear O
 try clear U
 try clear W
 try clear D
 try clear E
 try clear J
 try clear L
 try clear P
 try clear T
 try clear X
 try clear Y
 obtain ⟨kq, aa, rfl, HA, aD, a, HB⟩ := hcut
 cases kq with
 | zero => exact absurd HA.out (by simp [spec_ProofOk.j0])
 | succ ag =>
  have H := HA.out
  clear HA
  simp only [spec_ProofOk.j0] at H
  revert H; refine ib_ ?_ ?_ <;> rintro rfl H
  ·obtain rfl := Option.some.inj H
   go_wp2
   go_ret
   exact ⟨er_, at_ HB.out⟩
  revert H; refine bd_ fun ah aU H => ?_
  try dsimp only at H
  replace H := bm_ H; obtain ⟨⟨aP, aQ⟩, aV, H⟩ := H
  try dsimp only at H
  have ai := mk_ H
  clear H
  try go_wp2
  replace a := mk_ (blk_drew a.out)
  replace HB := mk_ (below_drew1 HB.out)
  refine start_ (n := 14) (S := fun w' => w'.cell? ⟨s, 0, none⟩ = some (.int .i64 c) ∧ w'.cell? ⟨s, 1, none⟩ = some (.slice l b.length m)) (ds := []) #[false, false, false, false, false, false, false, false, false, false, false, false, false, false] (by kernel_rfl) rfl rfl ⟨(blk_cell a.out 0).trans rfl, (blk_cell a.out 1).trans rfl⟩ (fun o => ?_); refine with_tabW spec_ProofOk.tab3 spec_ProofOk.bits3 (fun g aM => ?_)
  generalize wc.drew = bg at a HB o ⊢
  refine pus_ 0 (some 44) (ao_ g) ?_
  refine pus_ 1 (some 45) (ao_ g) ?_
  refine pus_ 2 (some 46) (ao_ g) ?_
  refine pus_ 4 (some 48) (ao_ g) ?_
  refine pus_ 6 (some 50) (ao_ g) ?_
  refine tas_ 3 (some 47) (to_ g aM) o ?_
  refine tas_ 5 (some 49) (to_ g aM) o ?_
  refine ons_ 7 (some 51) (oo_ g) (fun K hK => ?_)
  refine goes_ Tryd.func60 (by kernel_rfl) rfl #[.int .i64 d] (by rfl) rfl rfl gl_ ?_
  with_reducible refine (spec_l11Nothing.calls ag d ah _ aU.out).mono ?_
  rintro e bh ⟨a5, rfl, aN, hb⟩
  refine ⟨_, rfl, ?_⟩
  have p := mk_ (Kd.R_lower aN (below_size (at_ HB.out)))
  replace a := mk_ (blk_at a.out hb)
  replace HB := ht_ HB hb
  (try clear hb)
  (try clear hb2)
  (try clear hk)
  (try clear hi)
  (try clear aN)
  obtain ⟨aR, aS, aE⟩ := Kd.R_slice p.out
  (first | subst aE | (injection aE with f1_ f2_ f3_; have aW := f1_.symm; have aX := f3_.symm; clear f1_ f2_ f3_; subst aW; subst aX))
  refine hK.out _ _ ⟨(blk_cell a.out 0).trans rfl, (blk_cell a.out 1).trans rfl⟩ (fun o => ?_)
  clear hK K
  refine nor_ (some 51) ?_
  refine ons_ 8 (some 52) (oo_ g) (fun K hK => ?_)
  refine goes_ Tryd.func59 (by kernel_rfl) rfl #[.int .i64 d, .slice Z l1.length t, .slice A2 q.length c2, .agg #[.int .i64 c, .slice l b.length m], .int .i64 c, .slice aR ah.length aS] (by rfl) rfl rfl gl_ ?_
  with_reducible refine (spec_l11Checks.calls ag d _ _ l1 _ _ q c _ _ b c _ _ ah aP aQ _ ?side1 ?side2 ?side3 ?side4 ?side5 ?side6 ?side7 ?side8 aV.out).mono ?_
  (case side1 => exact Kd.C_below (Kd.C_below u.out HB.out) lt_)
  (case side2 => exact v.out)
  (case side3 => exact Kd.C_below (Kd.C_below y.out HB.out) lt_)
  (case side4 => exact z.out)
  (case side5 => exact Kd.C_below (Kd.C_below am.out HB.out) lt_)
  (case side6 => exact an.out)
  (case side7 => exact Kd.C_below (Kd.R_reads' p.out).2.2 lt_)
  (case side8 => exact (Kd.R_reads' p.out).2.1)
  rintro e bj ⟨rfl, hb⟩
  refine ⟨_, rfl, ?_⟩
  replace a := mk_ (blk_at a.out hb)
  replace HB := ht_ HB hb
  (try clear p)
  (try clear hb)
  (try clear hb2)
  (try clear hk)
  (try clear hi)
  refine hK.out _ _ ⟨(blk_cell a.out 0).trans rfl, (blk_cell a.out 1).trans rfl⟩ (fun o => ?_)
  clear hK K
  refine nor_ (some 52) ?_
  refine pus_ 9 (some 43) (ao_ g) ?_
  refine pus_ 10 (some 53) (ao_ g) ?_
  refine pus_ 11 (some 54) (ao_ g) ?_
  refine pus_ 12 (some 9) (ao_ g) ?_
  refine pus_ 13 (some 10) (ao_ g) ?_
  refine done_ (done_of g.out (by kernel_rfl)) ?_
  go_upto_region 4 with (fail)
  go_cut [8] (fun v8 wc => ∃ (kq : Nat) (af : Bool), v8 = .bool af ∧ Aside0 (spec_ProofOk.j1 kq af = some r) ∧ Aside0 (kq ≤ ag) ∧ Aside0 (wc.heap[s]? = some (.cells #[.int .i64 c, (.slice l b.length m)] 27 (0, 0))) ∧ Aside0 (Below w.heap.size w wc))
  case first =>
   have H := ai.out
   clear ai
   revert H; refine bi_ ?_ ?_ <;> rintro rfl H
   ·have H' := mk_ H
    clear H
    go_wp2
    go_meet
    case rel => exact ⟨_, (false), sm_, H', ⟨by have := aD.out; first | omega | exact Nat.le_refl _⟩, ⟨by refine bs_ ?_; exact a.out⟩, ⟨at_ HB.out⟩⟩
   revert H; refine ti_ (qfk_ fun aY j ao H => ?_) (qt_ fun j ao H => ?_)
   ·(first | rw [j] | (simp only [i64_w, i32_w]; rw [j]) | skip)
    have H' := mk_ H
    clear H
    obtain ⟨aq, ar, au, av⟩ := b2_ a
    go_wp2
    go_meet
    case rel => exact ⟨_, (false), sm_, H', ⟨by have := aD.out; first | omega | exact Nat.le_refl _⟩, ⟨by refine bs_ ?_; exact a.out⟩, ⟨at_ HB.out⟩⟩
   (first | rw [j] | (simp only [i64_w, i32_w]; rw [j]) | skip)
   replace H := Option.bind_eq_some_iff.mp H
   obtain ⟨aj, aF, H⟩ := H
   replace H : (spec_ProofOk.j1 ag aj) = some r := H
   have aZ := mk_ aF
   clear aF
   have H' := mk_ H
   clear H
   obtain ⟨aw, ax, ay, az⟩ := b2_ a
   go_wp2_with (first | (go_at_call 61; (with_reducible refine (spec_l11Once.calls ag c _ _ b aj _ ?side1 ?side2 aZ.out).mono ?_); (case side1 => exact Kd.C_below (Kd.C_below am.out HB.out) lt_); (case side2 => exact an.out); rintro e bk ⟨rfl, hb⟩; replace a := mk_ (blk_at a.out hb); replace HB := ht_ HB hb; (try clear p); (try clear hb)))
   go_meet
   case rel => exact ⟨_, (aj), sm_, H', ⟨by have := aD.out; first | omega | exact Nat.le_refl _⟩, ⟨by refine bs_ ?_; exact a.out⟩, ⟨at_ HB.out⟩⟩
  clear ai
  try clear t
  try clear c2
  try clear x
  try clear i
  try clear ab
  try clear ac
  try clear aL
  try clear ad
  try clear ae
  try clear aY
  try clear j
  try clear ao
  try clear A
  try clear B
  try clear G
  try clear I
  try clear M
  try clear O
  try clear U
  try clear W
  try clear aw
  try clear ax
  try clear aq
  try clear ar
  try clear D
  try clear E
  try clear J
  try clear L
  try clear P
  try clear T
  try clear X
  try clear Y
  try clear ay
  try clear az
  try clear au
  try clear av
  obtain ⟨kq, af, rfl, HA, a7, a, HB⟩ := hcut
  cases kq with
  | zero => exact absurd HA.out (by simp [spec_ProofOk.j1])
  | succ a8 =>
   have H := HA.out
   clear HA
   simp only [spec_ProofOk.j1] at H
   obtain rfl := Option.some.inj H
   go_wp2
   go_ret
   exact ⟨er_, at_ HB.out⟩
def spec_l1Number.f : Nat → Int → Option (ByteArray)
 | 0, _ => none
 | k + 1, a0 => if a0 < 10 then (some (strOfNums (([(wrap64 (48 + (mx a0 0))) % 256] : List Int)))) else ((spec_l1Number.f k (wrap64 (Int.tdiv a0 10))).bind fun t271 => ((some (([(wrap64 (48 + (Int.tmod a0 10))) % 256] : List Int) : List Int)).bind fun y272 => (if t271.size + (strOfNums y272).size ≤ 9223372036854775807 then (some (t271 ++ (strOfNums y272))) else (none))))
def spec_l1Number.T3 : Bool × List (List Nat × List Nat) := (true, [([], []), ([0], [0]), ([1], [1]), ([], []), ([3], [3]), ([4], [4]), ([5], [5]), ([6], [6]), ([7], [7]), ([2, 8], [2, 8]), ([9, 2, 0, 1, 2, 3, 4, 5, 6, 7, 8, 9], [9])])
def spec_l1Number.B3 : List Nat := [0, 1, 3, 0, 8, 24, 56, 120, 248, 511, 1023]
theorem spec_l1Number.tab3 : rtab .any (opsOf Tryd.f62 3) = spec_l1Number.T3 := by kernel_rfl
theorem spec_l1Number.bits3 : waitsOk spec_l1Number.T3.2 spec_l1Number.B3 = true := by kernel_rfl
theorem spec_l1Number.calls (k : Nat) : ∀ (c : Int) (r : ByteArray) (w : World) (h : spec_l1Number.f k c = some r),
  Calls Tryd.prog 62 #[.int .i64 c] w fun e w' => e = .returned (.string r) ∧ Below w.heap.size w w' := by
 induction k using Nat.strongRecOn with
 | _ k ih =>
 intro c r w h
 cases k with
 | zero => exact absurd h (by simp [spec_l1Number.f])
 | succ k =>
 simp only [spec_l1Number.f] at h
 have HB := mk_ (Below.refl w.heap.size w)
 have H : (if c < 10 then (some (strOfNums (([(wrap64 (48 + (mx c 0))) % 256] : List Int)))) else ((spec_l1Number.f k (wrap64 (Int.tdiv c 10))).bind fun g => ((some (([(wrap64 (48 + (Int.tmod c 10))) % 256] : List Int) : List Int)).bind fun l => (if g.size + (strOfNums l).size ≤ 9223372036854775807 then (some (g ++ (strOfNums l))) else (none))))) = some r := h
 clear h
 revert H; refine it_ (dt_ fun T H => ?_) (df_ fun T H => ?_)
 ·obtain ⟨o, t⟩ : ∃ j_ : Int, (mx c 0) = j_ := ⟨_, rfl⟩
  first | rw [t] at H | simp only [t] at H
  (try (have X : 0 ≤ o := by (rw [← t]; unfold mx; (repeat' split) <;> omega)))
  (try (have Y : 0 ≤ o := by omega))
  have Z : (if c < 0 then 0 else c) = o := t
  obtain ⟨aa, p⟩ : ∃ y_ : List Int, y_ = (([(wrap64 (48 + (o))) % 256] : List Int)) := ⟨_, rfl⟩
  first | (replace H := bn_ p H; try dsimp only at H) | rw [← p] at H
  have D := mk_ p
  clear p
  obtain rfl := Option.some.inj H
  go_enter Tryd.func62, Tryd.ntmps62
  go_wp2_with (first | ((with_reducible refine gate_dst (N := 9) rfl ?_); refine Kd.R_lit (Kd.int .u8) _ 5 ?hg (N := 9) ?hd (xs := ([(wrap64 (48 + (o))) % 256] : List Int)) (inner := [.int .u8 ((wrap64 (48 + (o))) % 256)]) (ok := fun _ => True) (okp := fun _ => True) ?hr ?hp (fun _ hk => hk) trivial (Below.refl _ _) (Nat.le_refl _) (by simp) ?_; (case hd => rfl); (case hg => rfl); (case hr => first | (go_simp; done) | (go_simp; rfl)); (case hp => exact (Reps.one (show Kd.M (Kd.int .u8) _ _ _ ((wrap64 (48 + (o))) % 256) [.int .u8 ((wrap64 (48 + (o))) % 256)] from rfl) (Reps.none _ _))); intro ab w4 A hb B m; clear B m; (first | rw [← D.out] at A | (simp only [Int.reduceToNat] at A; rw [← D.out] at A)); have E := mk_ (Kd.R_lower A (below_size (below_at HB.out))); replace HB := hs_ HB hb; clear hb A; have ac := own_string (P := Tryd.prog) Tryd.underlying22 Tryd.underlying5 Tryd.underlying9 (Kd.own_of_R E.out)))
  go_ret
  exact ⟨by first | rfl | (simp [errW_none, errW_some] <;> rfl) | (simp only [← t]; first | rfl | (simp [errW_none, errW_some] <;> rfl)) | (simp [*, errW_none, errW_some] <;> rfl), below_at HB.out⟩
 revert H; refine bd_ fun g U H => ?_
 try dsimp only at H
 obtain ⟨l, q⟩ : ∃ y_ : List Int, y_ = (([(wrap64 (48 + (Int.tmod c 10))) % 256] : List Int)) := ⟨_, rfl⟩
 first | (replace H := bn_ q H; try dsimp only at H) | rw [← q] at H
 have s := mk_ q
 clear q
 revert H; refine g_ (fun c8 H => ?_)
 have ad := eq_true c8
 have ae : decide (g.size + (strOfNums l).size ≤ 9223372036854775807) = true := decide_eq_true c8
 try have af : (9223372036854775807 < g.size + (strOfNums l).size) = False := eq_false (Nat.not_lt.2 c8)
 obtain rfl := Option.some.inj H
 go_enter Tryd.func62, Tryd.ntmps62
 try go_wp2
 replace HB := mk_ (below_drew1 HB.out)
 refine start_ (n := 11) (S := fun w' => True) (ds := []) #[false, false, false, false, false, false, false, false, false, false, false] (by kernel_rfl) rfl rfl trivial (fun b => ?_); refine with_tabW spec_l1Number.tab3 spec_l1Number.bits3 (fun d ag => ?_)
 generalize w.drew = w9 at HB b ⊢
 refine pus_ 0 (some 11) (ao_ d) ?_
 refine pus_ 1 (some 12) (ao_ d) ?_
 refine pus_ 3 (some 14) (ao_ d) ?_
 refine pus_ 4 (some 15) (ao_ d) ?_
 refine pus_ 5 (some 16) (ao_ d) ?_
 refine pus_ 6 (some 17) (ao_ d) ?_
 refine join_ (σ := Value) 2 #[true, true, true, true, true, true, true, true, true, false, false] (fun s_ => [(13, .string g), (18, s_), (19, .string (strOfNums l))]) (fun s_ w' => (Kd.R (Kd.int .u8) 5 w' w.heap.size (fun _ => True) s_ l) ∧ (Below w.heap.size w w')) ?_ ?_
 rotate_left
 ·intro hCont
  refine two_ (i := 2) (j := 7) (Ni := some 13) (Nj := some 18) #[true, true, true, true, true, true, true, false, false, false, false] #[true, true, false, true, true, true, true, true, false, false, false] rfl rfl rfl rfl (two_of d.out (by kernel_rfl)) (by decide) (by decide) (fun K hK => ?_) (fun K hK => ?_)
  ·skip
   refine goes_ Tryd.func62 (by kernel_rfl) rfl #[.int .i64 (wrap64 (Int.tdiv c 10))] (by rfl) rfl rfl gl_ ?_
   with_reducible refine (ih k (by omega) (wrap64 (Int.tdiv c 10)) g _ U.out).mono ?_
   rintro e W ⟨rfl, hb⟩
   refine ⟨_, rfl, ?_⟩
   replace HB := hs_ HB hb
   (try clear hb)
   (try clear hb2)
   (try clear hk)
   (try clear hi)
   refine hK.out _ _ trivial (fun b => ?_)
   clear hK K
   refine nor_ (some 13) ?_
   refine ons_ 7 (some 18) (oo_ d) (fun K hK => ?_)
   refine Kd.R_lit_step (Kd.int .u8) _ 5 ?hg (N := 18) ?hd (xs := ([(wrap64 (48 + (Int.tmod c 10))) % 256] : List Int)) (inner := [.int .u8 ((wrap64 (48 + (Int.tmod c 10))) % 256)]) (ok := fun _ => True) (okp := fun _ => True) ?hr ?hp (fun _ hk => hk) trivial (Below.refl _ _) (Nat.le_refl _) (by simp) ?_; (case hd => rfl); (case hg => rfl); (case hr => first | (go_simp; done) | (go_simp; rfl)); (case hp => exact (Reps.one (show Kd.M (Kd.int .u8) _ _ _ ((wrap64 (48 + (Int.tmod c 10))) % 256) [.int .u8 ((wrap64 (48 + (Int.tmod c 10))) % 256)] from rfl) (Reps.none _ _)))
   intro u ah x hb B m
   clear B m
   (first | rw [← s.out] at x | (simp only [Int.reduceToNat] at x; rw [← s.out] at x))
   have a := mk_ (Kd.R_lower x (below_size (below_at HB.out)))
   replace HB := hs_ HB hb
   clear hb x
   refine hK.out _ _ trivial (fun b => ?_)
   clear hK K
   refine nor_ (some 18) ?_
   refine ons_ 8 (some 19) (oo_ d) (fun K hK => ?_)
   have z := own_string (P := Tryd.prog) Tryd.underlying22 Tryd.underlying5 Tryd.underlying9 (Kd.own_of_R a.out)
   refine value_ (w1 := ?_) (v := ?_) (by rfl) rfl ?_ ?_
   rotate_left 2
   ·go_simp
    constructor
    ·rfl
    rfl
   clear z
   refine hK.out _ _ trivial (fun b => ?_)
   clear hK K
   refine nor_ (some 19) ?_
   exact norm_ (by simp only [putAll, Act.put, z0_, z1_, z2_]) (hCont (u) _ ⟨(Kd.R_below a.out lt_), (below_at HB.out)⟩)
  skip
  refine Kd.R_lit_step (Kd.int .u8) _ 5 ?hg (N := 18) ?hd (xs := ([(wrap64 (48 + (Int.tmod c 10))) % 256] : List Int)) (inner := [.int .u8 ((wrap64 (48 + (Int.tmod c 10))) % 256)]) (ok := fun _ => True) (okp := fun _ => True) ?hr ?hp (fun _ hk => hk) trivial (Below.refl _ _) (Nat.le_refl _) (by simp) ?_; (case hd => rfl); (case hg => rfl); (case hr => first | (go_simp; done) | (go_simp; rfl)); (case hp => exact (Reps.one (show Kd.M (Kd.int .u8) _ _ _ ((wrap64 (48 + (Int.tmod c 10))) % 256) [.int .u8 ((wrap64 (48 + (Int.tmod c 10))) % 256)] from rfl) (Reps.none _ _)))
  intro u W y hb B m
  clear B m
  (first | rw [← s.out] at y | (simp only [Int.reduceToNat] at y; rw [← s.out] at y))
  have a := mk_ (Kd.R_lower y (below_size (below_at HB.out)))
  replace HB := hs_ HB hb
  clear hb y
  refine hK.out _ _ trivial (fun b => ?_)
  clear hK K
  refine nor_ (some 18) ?_
  refine two_ (i := 2) (j := 8) (Ni := some 13) (Nj := some 19) #[true, true, true, true, true, true, true, true, false, false, false] #[true, true, false, true, true, true, true, true, true, false, false] rfl rfl rfl rfl (two_of d.out (by kernel_rfl)) (by decide) (by decide) (fun K hK => ?_) (fun K hK => ?_)
  ·skip
   refine goes_ Tryd.func62 (by kernel_rfl) rfl #[.int .i64 (wrap64 (Int.tdiv c 10))] (by rfl) rfl rfl gl_ ?_
   with_reducible refine (ih k (by omega) (wrap64 (Int.tdiv c 10)) g _ U.out).mono ?_
   rintro e ai ⟨rfl, hb⟩
   refine ⟨_, rfl, ?_⟩
   replace a := mk_ (Kd.R_below (Kd.R_below a.out lt_) hb)
   replace HB := hs_ HB hb
   (try clear hb)
   (try clear hb2)
   (try clear hk)
   (try clear hi)
   refine hK.out _ _ trivial (fun b => ?_)
   clear hK K
   refine nor_ (some 13) ?_
   refine ons_ 8 (some 19) (oo_ d) (fun K hK => ?_)
   have z := own_string (P := Tryd.prog) Tryd.underlying22 Tryd.underlying5 Tryd.underlying9 (Kd.own_of_R a.out)
   refine value_ (w1 := ?_) (v := ?_) (by rfl) rfl ?_ ?_
   rotate_left 2
   ·go_simp
    constructor
    ·rfl
    rfl
   clear z
   refine hK.out _ _ trivial (fun b => ?_)
   clear hK K
   refine nor_ (some 19) ?_
   exact norm_ (by simp only [putAll, Act.put, z0_, z1_, z2_]) (hCont (u) _ ⟨(Kd.R_below a.out lt_), (below_at HB.out)⟩)
  skip
  have G := own_string (P := Tryd.prog) Tryd.underlying22 Tryd.underlying5 Tryd.underlying9 (Kd.own_of_R a.out)
  refine value_ (w1 := ?_) (v := ?_) (by rfl) rfl ?_ ?_
  rotate_left 2
  ·go_simp
   constructor
   ·rfl
   rfl
  clear G
  refine hK.out _ _ trivial (fun b => ?_)
  clear hK K
  refine nor_ (some 19) ?_
  refine ons_ 2 (some 13) (oo_ d) (fun K hK => ?_)
  refine goes_ Tryd.func62 (by kernel_rfl) rfl #[.int .i64 (wrap64 (Int.tdiv c 10))] (by rfl) rfl rfl gl_ ?_
  with_reducible refine (ih k (by omega) (wrap64 (Int.tdiv c 10)) g _ U.out).mono ?_
  rintro e aj ⟨rfl, hb⟩
  refine ⟨_, rfl, ?_⟩
  replace a := mk_ (Kd.R_below (Kd.R_below a.out lt_) hb)
  replace HB := hs_ HB hb
  (try clear hb)
  (try clear hb2)
  (try clear hk)
  (try clear hi)
  refine hK.out _ _ trivial (fun b => ?_)
  clear hK K
  refine nor_ (some 13) ?_
  exact norm_ (by simp only [putAll, Act.put, z0_, z1_, z2_]) (hCont (u) _ ⟨(Kd.R_below a.out lt_), (below_at HB.out)⟩)
 rintro u ak ⟨I, J⟩
 have L := mk_ I
 have O := mk_ J
 clear HB
 clear I J
 have a := L
 have HB := O
 clear L O
 have b := trivial
 refine norm_ (a' := ?_) ?_ ?_
 rotate_left
 ·simp only [putAll, Act.put, z0_, z1_, z2_]
  rfl
 refine pus_ 9 (some 20) (ao_ d) ?_
 refine pus_ 10 (some 2) (ao_ d) ?_
 refine done_ (done_of d.out (by kernel_rfl)) ?_
 try go_wp2
 go_ret
 exact ⟨er_, below_at HB.out⟩
end Go.Proofs.YtcaogllnbpmcgaaDoor.P

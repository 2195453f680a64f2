/- Go's functions come to just the answers of the Lean functions told here. -/
import Derived.Test.YtcaogllnbpmcgaaDoorPx0
set_option maxHeartbeats 8000000
set_option maxRecDepth 100000
namespace Go.Proofs.YtcaogllnbpmcgaaDoor.P
open Go.RowKit Go.Proofs.YtcaogllnbpmcgaaDoorW.PrintWords Go.Proofs.YtcaogllnbpmcgaaDoorW.PrintLast Go.Proofs.YtcaogllnbpmcgaaDoorW.PrintMore
attribute [local go_sem] max2_int min2_int max_two min_two max_three min_three max_four min_four
set_option linter.unusedVariables false
set_option linter.unusedSimpArgs false
mutual
def spec_l11Once.l0 : Nat → List Bool → Int → Int → List (S68) → Option (Bool)
 | 0, _, _, _, _ => none
 | k + 1, x3, x4, x252000, x252001 => if x4 < (x252001.length : Int) then (spec_l11Once.l1 k x3 x4 0 x252000 x252001) else (some true)
def spec_l11Once.l1 : Nat → List Bool → Int → Int → Int → List (S68) → Option (Bool)
 | 0, _, _, _, _, _ => none
 | k + 1, x3, x4, x5, x252000, x252001 => if x5 < 2 then (if 0 ≤ x4 then (if x4 < (x252001.length : Int) then (if x5 = 1 then (spec_l11Once.j2 k x3 x4 x5 ((rd_T68 x252001 x4).f2) x252000 x252001) else (spec_l11Once.j2 k x3 x4 x5 ((rd_T68 x252001 x4).f1) x252000 x252001)) else (none)) else (none)) else (spec_l11Once.l0 k x3 (wrap64 (x4 + 1)) x252000 x252001)
def spec_l11Once.j2 : Nat → List Bool → Int → Int → Int → Int → List (S68) → Option (Bool)
 | 0, _, _, _, _, _, _ => none
 | k + 1, x3, x4, x5, x6, x252000, x252001 => if x6 < 0 then (spec_l11Once.l1 k x3 x4 (wrap64 (x5 + 1)) x252000 x252001) else (if x6 ≥ (x252001.length : Int) then (some false) else (if 0 ≤ x6 then (if x6 < (x3.length : Int) then (if rdOf false x3 x6 = true then (some false) else (spec_l11Once.l1 k (x3.set (x6 : Int).toNat true) x4 (wrap64 (x5 + 1)) x252000 x252001)) else (none)) else (none)))
end
def spec_l11Once.f (k : Nat) (a0_0 : Int) (l0_1 : List (S68)) : Option (Bool) := if 0 ≤ (l0_1.length : Int) then (if ((l0_1.length : Int) : Int).toNat ≤ 281474976710656 then (spec_l11Once.l0 k (List.replicate ((l0_1.length : Int) : Int).toNat false) 0 a0_0 l0_1) else (none)) else (none)
theorem spec_l11Once.calls (k : Nat) (i : Int) (s : Option Addr) (l : Nat) (b : List (S68)) (r : Bool) (w : World) (ao : Kd.C k68 w s b.length b) (ap : b.length ≤ l) (h : spec_l11Once.f k i b = some r) :
  Calls Tryd.prog 61 #[.agg #[.int .i64 i, .slice s b.length l]] w fun e w' => e = .returned (.bool r) ∧ Below w.heap.size w w' := by
 have bI := Tryd.underlying27
 have aq := mk_ ao
 have bE := mk_ ap
 clear ao ap
 have HB := mk_ (Below.refl w.heap.size w)
 unfold spec_l11Once.f at h
 have H := h
 clear h
 revert H; refine g_ (et_ fun ad ae => g_ (et_ fun af ag H => ?_))
 obtain ⟨aX, K⟩ : ∃ y_ : List Bool, y_ = (List.replicate ((b.length : Int) : Int).toNat false) := ⟨_, rfl⟩
 first | (replace H := bn_ K H; try dsimp only at H) | rw [← K] at H
 have ar := mk_ K
 clear K
 have H' := mk_ H
 clear H
 go_enter Tryd.func61, Tryd.ntmps61
 go_wp2_with (first | (refine gx_ 1 #[.int .i64 i, .slice s b.length l] 27 ?_; intro c hg w4 aF hb; have a := mk_ (aF); have aN := gm_ hg HB.out; have bF := aN; replace HB := hs_ HB hb; clear hb aF hg; obtain ⟨M, O, P, T⟩ := b2_ a) | ((with_reducible refine gate_dst (N := 10) rfl ?_); refine Kd.R_make Kd.bool _ 4 rfl (N := 10) rfl 63 _ _ rfl (b.length : Int) rfl rfl Tryd.underlying63 (.bool false) 1 info4 rfl (by decide) (by omega) false (ok := fun _ => True) (okp := fun _ => True) rfl (fun _ hk => hk) trivial (oa_) (Nat.le_trans (Nat.mul_le_mul_right _ (oa_ : (b.length : Int).toNat ≤ 281474976710656)) (by omega)) (Below.refl _ _) (Nat.le_refl _) ?_; intro ah w6 Y hb bx aO; clear bx aO; (first | rw [← ar.out] at Y | (simp only [Int.reduceToNat] at Y; rw [← ar.out] at Y)); have aP := mk_ (Kd.R_lower Y (below_size (at_ HB.out))); replace a := mk_ (blk_at a.out hb); replace HB := ht_ HB hb; clear hb Y))
 go_loopg [4] k (fun kq v4 w' => ∃ (U : List Bool) (n : Int), v4 = .int .i64 n ∧ Aside0 (spec_l11Once.l0 kq U n i b = some r) ∧ Aside0 (kq ≤ k) ∧ Aside0 (Kd.R Kd.bool 4 w' w.heap.size (fun _ => True) ah U) ∧ Aside0 (w'.heap[c]? = some (.cells #[.int .i64 i, (.slice s b.length l)] 27 (0, 0))) ∧ Aside0 (Below w.heap.size w w'))
 case atStart => exact ⟨(aX), (0), sm_, H', ⟨Nat.le_refl _⟩, ⟨Kd.R_below aP.out lt_⟩, ⟨by refine bs_ ?_; exact a.out⟩, ⟨at_ HB.out⟩⟩
 clear H'
 try clear ad
 try clear ae
 try clear af
 try clear ag
 try clear M
 try clear O
 try clear P
 try clear T
 obtain ⟨U, n, rfl, HA, I, j, a, HB⟩ := hrel
 cases gk with
 | zero => exact absurd HA.out (by simp [spec_l11Once.l0])
 | succ k1 =>
  have H := HA.out
  clear HA
  simp only [spec_l11Once.l0] at H
  revert H; refine ti_ (df_ fun ai H => ?_) (dt_ fun ai H => ?_)
  ·obtain rfl := Option.some.inj H
   have bc : wr.cell? ⟨c, 0, none⟩ = some (.int .i64 i) := (blk_cell a.out 0).trans rfl
   have be : wr.cell? ⟨c, 1, none⟩ = some (.slice s b.length l) := (blk_cell a.out 1).trans rfl
   have bf := blk_frozen a.out 0
   have bg := blk_frozen a.out 1
   go_wp2
   go_ret
   exact ⟨er_, at_ HB.out⟩
  have H' := mk_ H
  clear H
  have Z : wr.cell? ⟨c, 0, none⟩ = some (.int .i64 i) := (blk_cell a.out 0).trans rfl
  have aa : wr.cell? ⟨c, 1, none⟩ = some (.slice s b.length l) := (blk_cell a.out 1).trans rfl
  have ab := blk_frozen a.out 0
  have ac := blk_frozen a.out 1
  go_wp2
  go_loopg [5] k1 (fun kq v5 w' => ∃ (m : List Bool) (y : Int), v5 = .int .i64 y ∧ Aside0 (spec_l11Once.l1 kq m n y i b = some r) ∧ Aside0 (kq ≤ k1) ∧ Aside0 (Kd.R Kd.bool 4 w' w.heap.size (fun _ => True) ah m) ∧ Aside0 (w'.heap[c]? = some (.cells #[.int .i64 i, (.slice s b.length l)] 27 (0, 0))) ∧ Aside0 (Below w.heap.size w w'))
  case atStart => exact ⟨(U), (0), sm_, H', ⟨Nat.le_refl _⟩, ⟨Kd.R_below j.out lt_⟩, ⟨by refine bs_ ?_; exact a.out⟩, ⟨at_ HB.out⟩⟩
  clear H'
  try clear ad
  try clear ae
  try clear af
  try clear ag
  try clear ai
  try clear M
  try clear O
  try clear Z
  try clear aa
  try clear P
  try clear T
  try clear ab
  try clear ac
  obtain ⟨m, y, rfl, HA, J, j, a, HB⟩ := hrel
  cases gk with
  | zero => exact absurd HA.out (by simp [spec_l11Once.l1])
  | succ k2 =>
   have H := HA.out
   clear HA
   simp only [spec_l11Once.l1] at H
   revert H; refine ti_ (df_ fun au H => ?_) (dt_ fun au H => ?_)
   ·have H' := mk_ H
    clear H
    go_wp2
    go_roundg k2
    case measure => have := I.out; have := J.out; omega
    case rel => exact ⟨(m), (wrap64 (n + 1)), sm_, H', ⟨by have := I.out; have := J.out; omega⟩, ⟨Kd.R_below j.out lt_⟩, ⟨by refine bs_ ?_; exact a.out⟩, ⟨at_ HB.out⟩⟩
   revert H; refine g_ (dt_ fun aQ => g_ (dt_ fun aR H => ?_))
   have aj := mk_ H
   clear H
   have ax : wr.cell? ⟨c, 0, none⟩ = some (.int .i64 i) := (blk_cell a.out 0).trans rfl
   have ay : wr.cell? ⟨c, 1, none⟩ = some (.slice s b.length l) := (blk_cell a.out 1).trans rfl
   have az := blk_frozen a.out 0
   have aA := blk_frozen a.out 1
   obtain ⟨q, aY, z, A, B⟩ := at_T68 aq.out n oa_ oa_
   cases aY
   replace z := cel HB.out z
   replace A := cel HB.out A
   replace B := cel HB.out B
   obtain ⟨aZ, a0⟩ := pq_ (n : Int) (b.length : Int)
   go_upto_if 29 with (fail)
   go_cut [6] (fun v6 wc => ∃ (kq : Nat) (d : Int), v6 = .int .i64 d ∧ Aside0 (spec_l11Once.j2 kq m n y d i b = some r) ∧ Aside0 (kq ≤ k2) ∧ Aside0 (Kd.R Kd.bool 4 wc w.heap.size (fun _ => True) ah m) ∧ Aside0 (wc.heap[c]? = some (.cells #[.int .i64 i, (.slice (some q) b.length l)] 27 (0, 0))) ∧ Aside0 (Below w.heap.size w wc))
   case first =>
    have H := aj.out
    clear aj
    revert H; refine ti_ (qfk_ fun bB u av H => ?_) (qt_ fun u av H => ?_)
    ·(first | rw [u] | (simp only [i64_w, i32_w]; rw [u]) | skip)
     have H' := mk_ H
     clear H
     go_wp2
     go_meet
     case rel => exact ⟨_, ((rd_T68 b n).f1), sm_, H', ⟨by have := I.out; have := J.out; first | omega | exact Nat.le_refl _⟩, ⟨Kd.R_below j.out lt_⟩, ⟨by refine bs_ ?_; exact a.out⟩, ⟨at_ HB.out⟩⟩
    (first | rw [u] | (simp only [i64_w, i32_w]; rw [u]) | skip)
    have H' := mk_ H
    clear H
    have aB : wr.cell? ⟨c, 0, none⟩ = some (.int .i64 i) := (blk_cell a.out 0).trans rfl
    have aC : wr.cell? ⟨c, 1, none⟩ = some (.slice (some q) b.length l) := (blk_cell a.out 1).trans rfl
    have aD := blk_frozen a.out 0
    have aE := blk_frozen a.out 1
    obtain ⟨aS, a1, D, E, G⟩ := at_T68 aq.out n oa_ oa_
    obtain rfl : q = aS := (by injection a1)
    replace D := cel HB.out D
    replace E := cel HB.out E
    replace G := cel HB.out G
    obtain ⟨a2, a3⟩ := pq_ (n : Int) (b.length : Int)
    go_wp2
    go_meet
    case rel => exact ⟨_, ((rd_T68 b n).f2), sm_, H', ⟨by have := I.out; have := J.out; first | omega | exact Nat.le_refl _⟩, ⟨Kd.R_below j.out lt_⟩, ⟨by refine bs_ ?_; exact a.out⟩, ⟨at_ HB.out⟩⟩
   clear aj
   try clear ad
   try clear ae
   try clear af
   try clear ag
   try clear ai
   try clear au
   try clear aQ
   try clear aR
   try clear bB
   try clear u
   try clear av
   try clear ax
   try clear ay
   try clear aB
   try clear aC
   try clear M
   try clear O
   try clear Z
   try clear aa
   try clear az
   try clear aA
   try clear aD
   try clear aE
   try clear P
   try clear T
   try clear ab
   try clear ac
   try clear z
   try clear A
   try clear B
   try clear D
   try clear E
   try clear G
   try clear aZ
   try clear a2
   try clear a0
   try clear a3
   obtain ⟨kq, d, rfl, HA, W, j, a, HB⟩ := hcut
   cases kq with
   | zero => exact absurd HA.out (by simp [spec_l11Once.j2])
   | succ ak =>
    have H := HA.out
    clear HA
    simp only [spec_l11Once.j2] at H
    revert H; refine it_ (dt_ fun aT H => ?_) (df_ fun aT H => ?_)
    ·have H' := mk_ H
     clear H
     go_wp2
     go_roundg ak
     case measure => have := I.out; have := J.out; have := W.out; omega
     case rel => exact ⟨(m), (wrap64 (y + 1)), sm_, H', ⟨by have := I.out; have := J.out; have := W.out; omega⟩, ⟨Kd.R_below j.out lt_⟩, ⟨by refine bs_ ?_; exact a.out⟩, ⟨at_ HB.out⟩⟩
    revert H; refine it_ (dt_ fun (c18b0 : decide ((b.length : Int) ≤ d) = true) H => ?_) (df_ fun (c18b0 : decide ((b.length : Int) ≤ d) = false) H => ?_)
    ·obtain rfl := Option.some.inj H
     have bh : wc.cell? ⟨c, 0, none⟩ = some (.int .i64 i) := (blk_cell a.out 0).trans rfl
     have bj : wc.cell? ⟨c, 1, none⟩ = some (.slice (some q) b.length l) := (blk_cell a.out 1).trans rfl
     have bk := blk_frozen a.out 0
     have bn := blk_frozen a.out 1
     go_wp2
     go_ret
     exact ⟨er_, at_ HB.out⟩
    revert H; refine g_ (dt_ fun bG => g_ (dt_ fun bH H => ?_))
    obtain ⟨a4, X⟩ : ∃ b_ : Bool, b_ = (rdOf false m d) := ⟨_, rfl⟩
    replace H : (if a4 = true then (some false) else (spec_l11Once.l1 ak (m.set (d : Int).toNat true) n (wrap64 (y + 1)) i b)) = some r := by rw [← X] at H; exact H
    have aw := mk_ X
    clear X
    revert H; refine ib_ ?_ ?_ <;> rintro rfl H
    ·obtain rfl := Option.some.inj H
     have bo : wc.cell? ⟨c, 0, none⟩ = some (.int .i64 i) := (blk_cell a.out 0).trans rfl
     have bp : wc.cell? ⟨c, 1, none⟩ = some (.slice (some q) b.length l) := (blk_cell a.out 1).trans rfl
     have bq := blk_frozen a.out 0
     have br := blk_frozen a.out 1
     obtain ⟨bM, bN, a5⟩ := Kd.R_slice j.out
     subst a5
     obtain ⟨aU, al, x⟩ := Kd.at_bool (Kd.R_reads' j.out).2.2 d oa_ oa_
     (try rw [← aw.out] at x)
     cases al
     obtain ⟨a6, a7⟩ := pq_ (d : Int) (m.length : Int)
     go_wp2
     go_ret
     exact ⟨er_, at_ HB.out⟩
    obtain ⟨aG, L⟩ : ∃ y_ : List Bool, y_ = (m.set (d : Int).toNat true) := ⟨_, rfl⟩
    first | (replace H := bn_ L H; try dsimp only at H) | rw [← L] at H
    have aV := mk_ L
    clear L
    have H' := mk_ H
    clear H
    have bs : wc.cell? ⟨c, 0, none⟩ = some (.int .i64 i) := (blk_cell a.out 0).trans rfl
    have bu : wc.cell? ⟨c, 1, none⟩ = some (.slice (some q) b.length l) := (blk_cell a.out 1).trans rfl
    have bv := blk_frozen a.out 0
    have bw := blk_frozen a.out 1
    obtain ⟨bO, a8, a9⟩ := Kd.R_slice j.out
    subst a9
    obtain ⟨aU, al, x⟩ := Kd.at_bool (Kd.R_reads' j.out).2.2 d oa_ oa_
    (try rw [← aw.out] at x)
    cases al
    obtain ⟨a6, a7⟩ := pq_ (d : Int) (m.length : Int)
    have aH : 0 ≤ (d : Int) := oa_
    have aI : (d : Int) < ((m.length : Int) : Int) := oa_
    obtain ⟨am, bP, aJ, aK, ba, bQ, aL⟩ := Kd.R_form j.out (by omega)
    (first | cases aJ | (injection aJ with ea_ en_ ec_; (first | subst ea_ | (injection ea_ with ea_; subst ea_)); subst ec_; clear en_))
    have bb := mk_ aK
    have bR := mk_ aL
    clear aK ba aL
    (first | simp only [add_plain] at x | skip)
    obtain ⟨bC, bD⟩ := Kd.R_celln false j.out (d : Int) aH aI
    replace aH := eq_true aH
    replace aI := eq_true aI
    have an := Kd.R_putg j.out (d : Int) true
    go_wp2_with (first | ((with_reducible refine gate_store (t := 4) (p := 51) rfl ?_); refine store_event (t := 4) (p := 51) (v := ?vo_w30) (w1 := (wc.setCell ⟨am, (d : Int).toNat, none⟩ (.bool true))) ?hg ?ho ?hn ?hr ?_; (case ho => rfl); (case hg => rfl); (case hn => rfl); (case hr => first | (go_simp; done) | (go_simp; rfl)); intro aM hw; have hg : wc.grownBy aM (some am) := (by rw [hw]; exact an.2); have aW : Kd.R Kd.bool 4 aM w.heap.size (fun _ => True) (.slice (some ⟨am, 0, none⟩) m.length a8) aG := (by rw [hw, aV.out]; exact an.1); clear an; replace a := mk_ (blk_grown (g := c) (o := .cells #[.int .i64 i, .slice (some q) b.length l] 27 (0, 0)) (bk_ a.out) hg (Kd.R_ne j.out a.out (by decide))); replace j := mk_ (aW); replace HB := mk_ ((by rw [hw]; exact below_set (HB.out) bb.out : Below w.heap.size w aM)); clear hg hw aW))
    go_roundg ak
    case measure => have := I.out; have := J.out; have := W.out; omega
    case rel => exact ⟨(aG), (wrap64 (y + 1)), sm_, H', ⟨by have := I.out; have := J.out; have := W.out; omega⟩, ⟨Kd.R_below j.out lt_⟩, ⟨by refine bs_ ?_; exact a.out⟩, ⟨at_ HB.out⟩⟩
end Go.Proofs.YtcaogllnbpmcgaaDoor.P

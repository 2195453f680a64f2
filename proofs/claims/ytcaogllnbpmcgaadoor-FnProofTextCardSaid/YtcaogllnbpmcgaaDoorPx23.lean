/- Go's functions come to just the answers of the Lean functions told here. -/
import Derived.Test.YtcaogllnbpmcgaaDoorPx0
namespace Go.Proofs.YtcaogllnbpmcgaaDoor.P
open Go.RowKit Go.Proofs.YtcaogllnbpmcgaaDoorW.PrintWords Go.Proofs.YtcaogllnbpmcgaaDoorW.PrintLast Go.Proofs.YtcaogllnbpmcgaaDoorW.PrintMore
attribute [local go_sem] max2_int min2_int max_two min_two max_three min_three max_four min_four
set_option linter.unusedVariables false
set_option linter.unusedSimpArgs false
mutual
def spec_l11Once.l0 : Nat → List Bool → Int → Int → List (S68) → Option (Bool)
 | 0, _, _, _, _ => none
 | k + 1, x3, x4, x439000, x439001 => if x4 < (x439001.length : Int) then (spec_l11Once.l1 k x3 x4 0 x439000 x439001) else (some true)
def spec_l11Once.l1 : Nat → List Bool → Int → Int → Int → List (S68) → Option (Bool)
 | 0, _, _, _, _, _ => none
 | k + 1, x3, x4, x5, x439000, x439001 => if x5 < 2 then (if 0 ≤ x4 then (if x4 < (x439001.length : Int) then (if x5 = 1 then (spec_l11Once.j2 k x3 x4 x5 ((rd_T68 x439001 x4).f2) x439000 x439001) else (spec_l11Once.j2 k x3 x4 x5 ((rd_T68 x439001 x4).f1) x439000 x439001)) else (none)) else (none)) else (spec_l11Once.l0 k x3 (wrap64 (x4 + 1)) x439000 x439001)
def spec_l11Once.j2 : Nat → List Bool → Int → Int → Int → Int → List (S68) → Option (Bool)
 | 0, _, _, _, _, _, _ => none
 | k + 1, x3, x4, x5, x6, x439000, x439001 => if x6 < 0 then (spec_l11Once.l1 k x3 x4 (wrap64 (x5 + 1)) x439000 x439001) else (if x6 ≥ (x439001.length : Int) then (some false) else (if 0 ≤ x6 then (if x6 < (x3.length : Int) then (if rdOf false x3 x6 = true then (some false) else (spec_l11Once.l1 k (x3.set (x6 : Int).toNat true) x4 (wrap64 (x5 + 1)) x439000 x439001)) else (none)) else (none)))
end
def spec_l11Once.f (k : Nat) (a0_0 : Int) (l0_1 : List (S68)) : Option (Bool) := if 0 ≤ (l0_1.length : Int) then (if ((l0_1.length : Int) : Int).toNat ≤ 281474976710656 then (spec_l11Once.l0 k (List.replicate ((l0_1.length : Int) : Int).toNat false) 0 a0_0 l0_1) else (none)) else (none)
set_option maxHeartbeats 8000000 in
set_option maxRecDepth 100000 in
theorem spec_l11Once.calls (k : Nat) (a0_0 : Int) (A0_1 : Option Addr) (c0_1 : Nat) (l0_1 : List (S68)) (r : Bool) (w : World) (hr0_1 : Kd.C k68 w A0_1 l0_1.length l0_1) (hc0_1 : l0_1.length ≤ c0_1) (h : spec_l11Once.f k a0_0 l0_1 = some r) :
  Calls Tryd.prog 61 #[.agg #[.int .i64 a0_0, .slice A0_1 l0_1.length c0_1]] w fun e w' => e = .returned (.bool r) ∧ Below w.heap.size w w' := by
 have hu27 := Tryd.underlying27
 have HR0_1 := mk_ hr0_1
 have HC0_1 := mk_ hc0_1
 clear hr0_1 hc0_1
 have HB := mk_ (Below.refl w.heap.size w)
 unfold spec_l11Once.f at h
 have H := h
 clear h
 revert H; refine g_ (et_ fun c2b0 c2b1 => g_ (et_ fun c3b0 c3b1 H => ?_))
 obtain ⟨y439, hy439⟩ : ∃ y_ : List Bool, y_ = (List.replicate ((l0_1.length : Int) : Int).toNat false) := ⟨_, rfl⟩
 first | (replace H := bn_ hy439 H; try dsimp only at H) | rw [← hy439] at H
 have Ny439 := mk_ hy439
 clear hy439
 have H' := mk_ H
 clear H
 go_enter Tryd.func61, Tryd.ntmps61
 go_wp2_with (first | (refine gx_ 1 #[.int .i64 a0_0, .slice A0_1 l0_1.length c0_1] 27 ?_; intro gb438 hg w4 hbox hb; have BK438 := mk_ (hbox); have GW438 := gm_ hg HB.out; have GE438 := gm_ hg HB.out; replace HB := mk_ (below_step (below_at HB.out) hb); clear hb hbox hg; have hcz5_0 := blk_cell BK438.out 0; have hcz5_1 := blk_cell BK438.out 1; have hfz5_0 := blk_frozen BK438.out 0; have hfz5_1 := blk_frozen BK438.out 1) | ((with_reducible refine gate_dst (N := 10) rfl ?_); refine Kd.R_make Kd.bool _ 4 rfl (N := 10) rfl 63 _ _ rfl (l0_1.length : Int) rfl rfl Tryd.underlying63 (.bool false) 1 info4 rfl (by decide) (by omega) false (ok := fun _ => True) (okp := fun _ => True) rfl (fun _ hk => hk) trivial (oa_) (Nat.le_trans (Nat.mul_le_mul_right _ (oa_ : (l0_1.length : Int).toNat ≤ 281474976710656)) (by omega)) (Below.refl _ _) (Nat.le_refl _) ?_; intro v440 w6 ho7 hb hg_ hnew_; clear hg_ hnew_; (first | rw [← Ny439.out] at ho7 | (simp only [Int.reduceToNat] at ho7; rw [← Ny439.out] at ho7)); have HO441 := mk_ (Kd.R_lower ho7 (below_size (at_ HB.out))); replace BK438 := mk_ (blk_at BK438.out hb); replace HB := mk_ (below_step (at_ HB.out) hb); clear hb ho7))
 go_loopg [4] k (fun kq v4 w' => ∃ (x3_1 : List Bool) (x4_1 : Int), v4 = .int .i64 x4_1 ∧ Aside0 (spec_l11Once.l0 kq x3_1 x4_1 a0_0 l0_1 = some r) ∧ Aside0 (kq ≤ k) ∧ Aside0 (Kd.R Kd.bool 4 w' w.heap.size (fun _ => True) v440 x3_1) ∧ Aside0 (w'.heap[gb438]? = some (.cells #[.int .i64 a0_0, (.slice A0_1 l0_1.length c0_1)] 27 (0, 0))) ∧ Aside0 (Below w.heap.size w w'))
 case atStart => exact ⟨(y439), (0), sm_, H', ⟨Nat.le_refl _⟩, ⟨Kd.R_below HO441.out lt_⟩, ⟨by refine bs_ ?_; exact BK438.out⟩, ⟨at_ HB.out⟩⟩
 clear H'
 try clear c2
 try clear c2b0
 try clear c2b1
 try clear p2
 try clear c3
 try clear c3b0
 try clear c3b1
 try clear c6
 try clear hcz5_0
 try clear hcz5_1
 try clear hfz5_0
 try clear hfz5_1
 obtain ⟨x3_1, x4_1, rfl, HA, HK1, HO_3, BK438, HB⟩ := hrel
 cases gk with
 | zero => exact absurd HA.out (by simp [spec_l11Once.l0])
 | succ k1 =>
  have H := HA.out
  clear HA
  simp only [spec_l11Once.l0] at H
  revert H; refine ti_ (df_ fun c8b0 H => ?_) (dt_ fun c8b0 H => ?_)
  ·obtain rfl := Option.some.inj H
   have hcz31_0 : wr.cell? ⟨gb438, 0, none⟩ = some (.int .i64 a0_0) := (blk_cell BK438.out 0).trans rfl
   have hcz31_1 : wr.cell? ⟨gb438, 1, none⟩ = some (.slice A0_1 l0_1.length c0_1) := (blk_cell BK438.out 1).trans rfl
   have hfz31_0 := blk_frozen BK438.out 0
   have hfz31_1 := blk_frozen BK438.out 1
   go_wp2
   go_ret
   exact ⟨er_, at_ HB.out⟩
  have H' := mk_ H
  clear H
  have hcz9_0 : wr.cell? ⟨gb438, 0, none⟩ = some (.int .i64 a0_0) := (blk_cell BK438.out 0).trans rfl
  have hcz9_1 : wr.cell? ⟨gb438, 1, none⟩ = some (.slice A0_1 l0_1.length c0_1) := (blk_cell BK438.out 1).trans rfl
  have hfz9_0 := blk_frozen BK438.out 0
  have hfz9_1 := blk_frozen BK438.out 1
  go_wp2
  go_loopg [5] k1 (fun kq v5 w' => ∃ (x3_2 : List Bool) (x5_2 : Int), v5 = .int .i64 x5_2 ∧ Aside0 (spec_l11Once.l1 kq x3_2 x4_1 x5_2 a0_0 l0_1 = some r) ∧ Aside0 (kq ≤ k1) ∧ Aside0 (Kd.R Kd.bool 4 w' w.heap.size (fun _ => True) v440 x3_2) ∧ Aside0 (w'.heap[gb438]? = some (.cells #[.int .i64 a0_0, (.slice A0_1 l0_1.length c0_1)] 27 (0, 0))) ∧ Aside0 (Below w.heap.size w w'))
  case atStart => exact ⟨(x3_1), (0), sm_, H', ⟨Nat.le_refl _⟩, ⟨Kd.R_below HO_3.out lt_⟩, ⟨by refine bs_ ?_; exact BK438.out⟩, ⟨at_ HB.out⟩⟩
  clear H'
  try clear c2
  try clear c2b0
  try clear c2b1
  try clear p2
  try clear c3
  try clear c3b0
  try clear c3b1
  try clear c6
  try clear c8
  try clear c8b0
  try clear hcz5_0
  try clear hcz5_1
  try clear hcz9_0
  try clear hcz9_1
  try clear hfz5_0
  try clear hfz5_1
  try clear hfz9_0
  try clear hfz9_1
  try clear p2
  obtain ⟨x3_2, x5_2, rfl, HA, HK2, HO_3, BK438, HB⟩ := hrel
  cases gk with
  | zero => exact absurd HA.out (by simp [spec_l11Once.l1])
  | succ k2 =>
   have H := HA.out
   clear HA
   simp only [spec_l11Once.l1] at H
   revert H; refine ti_ (df_ fun c10b0 H => ?_) (dt_ fun c10b0 H => ?_)
   ·have H' := mk_ H
    clear H
    go_wp2
    go_roundg k2
    case measure => have := HK1.out; have := HK2.out; omega
    case rel => exact ⟨(x3_2), (wrap64 (x4_1 + 1)), sm_, H', ⟨by have := HK1.out; have := HK2.out; omega⟩, ⟨Kd.R_below HO_3.out lt_⟩, ⟨by refine bs_ ?_; exact BK438.out⟩, ⟨at_ HB.out⟩⟩
   revert H; refine g_ (dt_ fun c11b0 => g_ (dt_ fun c12b0 H => ?_))
   have HC13 := mk_ H
   clear H
   have hcz14_0 : wr.cell? ⟨gb438, 0, none⟩ = some (.int .i64 a0_0) := (blk_cell BK438.out 0).trans rfl
   have hcz14_1 : wr.cell? ⟨gb438, 1, none⟩ = some (.slice A0_1 l0_1.length c0_1) := (blk_cell BK438.out 1).trans rfl
   have hfz14_0 := blk_frozen BK438.out 0
   have hfz14_1 := blk_frozen BK438.out 1
   have p442 : 0 ≤ (x4_1 : Int) := oa_
   have q442 : x4_1 < (l0_1.length : Int) := oa_
   obtain ⟨ad442, e442, hx442_0, hx442_1, hx442_2⟩ := at_T68 HR0_1.out x4_1 p442 q442
   cases e442
   replace hx442_0 := cel HB.out hx442_0
   replace hx442_1 := cel HB.out hx442_1
   replace hx442_2 := cel HB.out hx442_2
   replace p442 := eq_true p442
   replace q442 := eq_true q442
   go_upto_if 29 with (fail)
   go_cut [6] (fun v6 wc => ∃ (kq : Nat) (x6_12 : Int), v6 = .int .i64 x6_12 ∧ Aside0 (spec_l11Once.j2 kq x3_2 x4_1 x5_2 x6_12 a0_0 l0_1 = some r) ∧ Aside0 (kq ≤ k2) ∧ Aside0 (Kd.R Kd.bool 4 wc w.heap.size (fun _ => True) v440 x3_2) ∧ Aside0 (wc.heap[gb438]? = some (.cells #[.int .i64 a0_0, (.slice (some ad442) l0_1.length c0_1)] 27 (0, 0))) ∧ Aside0 (Below w.heap.size w wc))
   case first =>
    have H := HC13.out
    clear HC13
    revert H; refine ti_ (qfk_ fun c15 c15b0 c15b1 H => ?_) (qt_ fun c15b0 c15b1 H => ?_)
    ·(first | rw [c15b0] | (simp only [i64_w, i32_w]; rw [c15b0]) | skip)
     have H' := mk_ H
     clear H
     go_wp2
     go_meet
     case rel => exact ⟨_, ((rd_T68 l0_1 x4_1).f1), sm_, H', ⟨by have := HK1.out; have := HK2.out; first | omega | exact Nat.le_refl _⟩, ⟨Kd.R_below HO_3.out lt_⟩, ⟨by refine bs_ ?_; exact BK438.out⟩, ⟨at_ HB.out⟩⟩
    (first | rw [c15b0] | (simp only [i64_w, i32_w]; rw [c15b0]) | skip)
    have H' := mk_ H
    clear H
    have hcz16_0 : wr.cell? ⟨gb438, 0, none⟩ = some (.int .i64 a0_0) := (blk_cell BK438.out 0).trans rfl
    have hcz16_1 : wr.cell? ⟨gb438, 1, none⟩ = some (.slice (some ad442) l0_1.length c0_1) := (blk_cell BK438.out 1).trans rfl
    have hfz16_0 := blk_frozen BK438.out 0
    have hfz16_1 := blk_frozen BK438.out 1
    have p443 : 0 ≤ (x4_1 : Int) := oa_
    have q443 : x4_1 < (l0_1.length : Int) := oa_
    obtain ⟨ad443, e443, hx443_0, hx443_1, hx443_2⟩ := at_T68 HR0_1.out x4_1 p443 q443
    obtain rfl : ad442 = ad443 := (by injection e443)
    replace hx443_0 := cel HB.out hx443_0
    replace hx443_1 := cel HB.out hx443_1
    replace hx443_2 := cel HB.out hx443_2
    replace p443 := eq_true p443
    replace q443 := eq_true q443
    go_wp2
    go_meet
    case rel => exact ⟨_, ((rd_T68 l0_1 x4_1).f2), sm_, H', ⟨by have := HK1.out; have := HK2.out; first | omega | exact Nat.le_refl _⟩, ⟨Kd.R_below HO_3.out lt_⟩, ⟨by refine bs_ ?_; exact BK438.out⟩, ⟨at_ HB.out⟩⟩
   clear HC13
   try clear c1
   try clear c2
   try clear c2b0
   try clear c2b1
   try clear p2
   try clear c3
   try clear c3b0
   try clear c3b1
   try clear p4
   try clear q4
   try clear hx4
   try clear c6
   try clear c8
   try clear c8b0
   try clear c10
   try clear c10b0
   try clear c11
   try clear c11b0
   try clear c12
   try clear c12b0
   try clear c15
   try clear c15b0
   try clear c15b1
   try clear hcz14_0
   try clear hcz14_1
   try clear hcz16_0
   try clear hcz16_1
   try clear hcz5_0
   try clear hcz5_1
   try clear hcz9_0
   try clear hcz9_1
   try clear hfz14_0
   try clear hfz14_1
   try clear hfz16_0
   try clear hfz16_1
   try clear hfz5_0
   try clear hfz5_1
   try clear hfz9_0
   try clear hfz9_1
   try clear hx442_0
   try clear hx442_1
   try clear hx442_2
   try clear hx443_0
   try clear hx443_1
   try clear hx443_2
   try clear p2
   try clear p442
   try clear p443
   try clear q442
   try clear q443
   obtain ⟨kq, x6_12, rfl, HA, HJ12, HO_3, BK438, HB⟩ := hcut
   cases kq with
   | zero => exact absurd HA.out (by simp [spec_l11Once.j2])
   | succ kj12 =>
    have H := HA.out
    clear HA
    simp only [spec_l11Once.j2] at H
    revert H; refine it_ (dt_ fun c17b0 H => ?_) (df_ fun c17b0 H => ?_)
    ·have H' := mk_ H
     clear H
     go_wp2
     go_roundg kj12
     case measure => have := HK1.out; have := HK2.out; have := HJ12.out; omega
     case rel => exact ⟨(x3_2), (wrap64 (x5_2 + 1)), sm_, H', ⟨by have := HK1.out; have := HK2.out; have := HJ12.out; omega⟩, ⟨Kd.R_below HO_3.out lt_⟩, ⟨by refine bs_ ?_; exact BK438.out⟩, ⟨at_ HB.out⟩⟩
    revert H; refine it_ (dt_ fun (c18b0 : decide ((l0_1.length : Int) ≤ x6_12) = true) H => ?_) (df_ fun (c18b0 : decide ((l0_1.length : Int) ≤ x6_12) = false) H => ?_)
    ·obtain rfl := Option.some.inj H
     have hcz19_0 : wc.cell? ⟨gb438, 0, none⟩ = some (.int .i64 a0_0) := (blk_cell BK438.out 0).trans rfl
     have hcz19_1 : wc.cell? ⟨gb438, 1, none⟩ = some (.slice (some ad442) l0_1.length c0_1) := (blk_cell BK438.out 1).trans rfl
     have hfz19_0 := blk_frozen BK438.out 0
     have hfz19_1 := blk_frozen BK438.out 1
     go_wp2
     go_ret
     exact ⟨er_, at_ HB.out⟩
    revert H; refine g_ (dt_ fun c20b0 => g_ (dt_ fun c21b0 H => ?_))
    obtain ⟨bq22, hbq22⟩ : ∃ b_ : Bool, b_ = (rdOf false x3_2 x6_12) := ⟨_, rfl⟩
    replace H : (if bq22 = true then (some false) else (spec_l11Once.l1 kj12 (x3_2.set (x6_12 : Int).toNat true) x4_1 (wrap64 (x5_2 + 1)) a0_0 l0_1)) = some r := by rw [← hbq22] at H; exact H
    have Nbq22 := mk_ hbq22
    clear hbq22
    revert H; refine ib_ ?_ ?_ <;> rintro rfl H
    ·obtain rfl := Option.some.inj H
     have hcz24_0 : wc.cell? ⟨gb438, 0, none⟩ = some (.int .i64 a0_0) := (blk_cell BK438.out 0).trans rfl
     have hcz24_1 : wc.cell? ⟨gb438, 1, none⟩ = some (.slice (some ad442) l0_1.length c0_1) := (blk_cell BK438.out 1).trans rfl
     have hfz24_0 := blk_frozen BK438.out 0
     have hfz24_1 := blk_frozen BK438.out 1
     obtain ⟨Ao25, co25, eo25⟩ := Kd.R_slice HO_3.out
     subst eo25
     have p444 : 0 ≤ (x6_12 : Int) := oa_
     have q444 : x6_12 < (x3_2.length : Int) := oa_
     obtain ⟨ad444, e444, hx444_0⟩ := Kd.at_bool (Kd.R_reads' HO_3.out).2.2 x6_12 p444 q444
     (try rw [← Nbq22.out] at hx444_0)
     cases e444
     replace p444 := eq_true p444
     replace q444 := eq_true q444
     go_wp2
     go_ret
     exact ⟨er_, at_ HB.out⟩
    obtain ⟨y445, hy445⟩ : ∃ y_ : List Bool, y_ = (x3_2.set (x6_12 : Int).toNat true) := ⟨_, rfl⟩
    first | (replace H := bn_ hy445 H; try dsimp only at H) | rw [← hy445] at H
    have Ny445 := mk_ hy445
    clear hy445
    have H' := mk_ H
    clear H
    have hcz27_0 : wc.cell? ⟨gb438, 0, none⟩ = some (.int .i64 a0_0) := (blk_cell BK438.out 0).trans rfl
    have hcz27_1 : wc.cell? ⟨gb438, 1, none⟩ = some (.slice (some ad442) l0_1.length c0_1) := (blk_cell BK438.out 1).trans rfl
    have hfz27_0 := blk_frozen BK438.out 0
    have hfz27_1 := blk_frozen BK438.out 1
    obtain ⟨Ao28, co28, eo28⟩ := Kd.R_slice HO_3.out
    subst eo28
    have p444 : 0 ≤ (x6_12 : Int) := oa_
    have q444 : x6_12 < (x3_2.length : Int) := oa_
    obtain ⟨ad444, e444, hx444_0⟩ := Kd.at_bool (Kd.R_reads' HO_3.out).2.2 x6_12 p444 q444
    (try rw [← Nbq22.out] at hx444_0)
    cases e444
    replace p444 := eq_true p444
    replace q444 := eq_true q444
    have p26 : 0 ≤ (x6_12 : Int) := oa_
    have q26 : (x6_12 : Int) < ((x3_2.length : Int) : Int) := oa_
    obtain ⟨go26, co26, eo26, gb26, gl26, cl26, HG26⟩ := Kd.R_form HO_3.out (by omega)
    (first | cases eo26 | (injection eo26 with ea_ en_ ec_; (first | subst ea_ | (injection ea_ with ea_; subst ea_)); subst ec_; clear en_))
    have GB26 := mk_ gb26
    have GG26 := mk_ HG26
    clear gb26 gl26 HG26
    (first | simp only [add_plain] at hx444_0 | skip)
    obtain ⟨hx26_0, hf26_0⟩ := Kd.R_celln false HO_3.out (x6_12 : Int) p26 q26
    replace p26 := eq_true p26
    replace q26 := eq_true q26
    have HP29 := Kd.R_putg HO_3.out (x6_12 : Int) true
    go_wp2_with (first | ((with_reducible refine gate_store (t := 4) (p := 51) rfl ?_); refine store_event (t := 4) (p := 51) (v := ?vo_w30) (w1 := (wc.setCell ⟨go26, (x6_12 : Int).toNat, none⟩ (.bool true))) ?hg ?ho ?hn ?hr ?_; (case ho => rfl); (case hg => rfl); (case hn => rfl); (case hr => first | (go_simp; done) | (go_simp; rfl)); intro w30 hw; have hg : wc.grownBy w30 (some go26) := (by rw [hw]; exact HP29.2); have hp_ : Kd.R Kd.bool 4 w30 w.heap.size (fun _ => True) (.slice (some ⟨go26, 0, none⟩) x3_2.length co28) y445 := (by rw [hw, Ny445.out]; exact HP29.1); clear HP29; replace BK438 := mk_ (blk_grown (g := gb438) (o := .cells #[.int .i64 a0_0, .slice (some ad442) l0_1.length c0_1] 27 (0, 0)) (bk_ BK438.out) hg (Kd.R_ne HO_3.out BK438.out (by decide))); replace HO_3 := mk_ (hp_); replace HB := mk_ ((by rw [hw]; exact below_set (HB.out) GB26.out : Below w.heap.size w w30)); clear hg hw hp_))
    go_roundg kj12
    case measure => have := HK1.out; have := HK2.out; have := HJ12.out; omega
    case rel => exact ⟨(y445), (wrap64 (x5_2 + 1)), sm_, H', ⟨by have := HK1.out; have := HK2.out; have := HJ12.out; omega⟩, ⟨Kd.R_below HO_3.out lt_⟩, ⟨by refine bs_ ?_; exact BK438.out⟩, ⟨at_ HB.out⟩⟩
end Go.Proofs.YtcaogllnbpmcgaaDoor.P

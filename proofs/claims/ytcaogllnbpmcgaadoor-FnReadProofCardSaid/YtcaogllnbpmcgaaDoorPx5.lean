/- Go's functions come to just the answers of the Lean functions told here. -/
import Derived.Test.YtcaogllnbpmcgaaDoorPx4
set_option maxHeartbeats 8000000
set_option maxRecDepth 100000
namespace Go.Proofs.YtcaogllnbpmcgaaDoor.P
open Go.RowKit Go.Proofs.YtcaogllnbpmcgaaDoorW.PrintWords Go.Proofs.YtcaogllnbpmcgaaDoorW.PrintLast Go.Proofs.YtcaogllnbpmcgaaDoorW.PrintMore
attribute [local go_sem] max2_int min2_int max_two min_two max_three min_three max_four min_four
set_option linter.unusedVariables false
set_option linter.unusedSimpArgs false
def impl_holds.l0 : Nat → Int → List Bool → List (S82) → Int → Int → Option (Bool)
 | 0, _, _, _, _, _ => none
 | k + 1, x1, x5, x12, x13, x14 => if x14 < x13 then (if 0 ≤ x14 then (if x14 < (x12.length : Int) then (if ((rd_T82 x12 x14).f0) = 0 then (if 0 ≤ ((rd_T82 x12 x14).f1) then (if x5.length < 140737488355328 then (impl_holds.l0 k x1 (x5 ++ [((Go.bits .and .i64 (shr .i64 x1 ((rd_T82 x12 x14).f1)) 1) == 1)]) x12 x13 (wrap64 (x14 + 1))) else (none)) else (none)) else (if ((rd_T82 x12 x14).f0) = 1 then ((bits_OnesCount.f (IntKind.u64.wrap (x1))).bind fun t121 => (if x5.length < 140737488355328 then (impl_holds.l0 k x1 (x5 ++ [decide (t121 ≥ ((rd_T82 x12 x14).f1))]) x12 x13 (wrap64 (x14 + 1))) else (none))) else (if ((rd_T82 x12 x14).f0) = 2 then (if 0 ≤ (wrap64 ((x5.length : Int) - 1)) then (if (wrap64 ((x5.length : Int) - 1)) < (x5.length : Int) then (impl_holds.l0 k x1 (x5.set ((wrap64 ((x5.length : Int) - 1)) : Int).toNat (!(rdOf false x5 (wrap64 ((x5.length : Int) - 1))))) x12 x13 (wrap64 (x14 + 1))) else (none)) else (none)) else (if 0 ≤ (wrap64 ((wrap64 ((x5.length : Int) - 1)) - 1)) then (if (wrap64 ((wrap64 ((x5.length : Int) - 1)) - 1)) < (x5.length : Int) then (if 0 ≤ (wrap64 ((x5.length : Int) - 1)) then (if (wrap64 ((x5.length : Int) - 1)) < (x5.length : Int) then (if (wrap64 ((x5.length : Int) - 1)) ≤ (x5.length : Int) then ((some (x5.take ((wrap64 ((x5.length : Int) - 1)) : Int).toNat : List Bool)).bind fun y129 => (if ((rd_T82 x12 x14).f0) = 3 then (if rdOf false x5 (wrap64 ((wrap64 ((x5.length : Int) - 1)) - 1)) = true then (if (wrap64 ((wrap64 ((x5.length : Int) - 1)) - 1)) < (y129.length : Int) then (impl_holds.l0 k x1 (y129.set ((wrap64 ((wrap64 ((x5.length : Int) - 1)) - 1)) : Int).toNat (rdOf false x5 (wrap64 ((x5.length : Int) - 1)))) x12 x13 (wrap64 (x14 + 1))) else (none)) else (if (wrap64 ((wrap64 ((x5.length : Int) - 1)) - 1)) < (y129.length : Int) then (impl_holds.l0 k x1 (y129.set ((wrap64 ((wrap64 ((x5.length : Int) - 1)) - 1)) : Int).toNat false) x12 x13 (wrap64 (x14 + 1))) else (none))) else (if ((rd_T82 x12 x14).f0) = 4 then (if rdOf false x5 (wrap64 ((wrap64 ((x5.length : Int) - 1)) - 1)) = true then (if (wrap64 ((wrap64 ((x5.length : Int) - 1)) - 1)) < (y129.length : Int) then (impl_holds.l0 k x1 (y129.set ((wrap64 ((wrap64 ((x5.length : Int) - 1)) - 1)) : Int).toNat true) x12 x13 (wrap64 (x14 + 1))) else (none)) else (if (wrap64 ((wrap64 ((x5.length : Int) - 1)) - 1)) < (y129.length : Int) then (impl_holds.l0 k x1 (y129.set ((wrap64 ((wrap64 ((x5.length : Int) - 1)) - 1)) : Int).toNat (rdOf false x5 (wrap64 ((x5.length : Int) - 1)))) x12 x13 (wrap64 (x14 + 1))) else (none))) else (if (wrap64 ((wrap64 ((x5.length : Int) - 1)) - 1)) < (y129.length : Int) then (impl_holds.l0 k x1 (y129.set ((wrap64 ((wrap64 ((x5.length : Int) - 1)) - 1)) : Int).toNat ((rdOf false x5 (wrap64 ((wrap64 ((x5.length : Int) - 1)) - 1))) == (rdOf false x5 (wrap64 ((x5.length : Int) - 1))))) x12 x13 (wrap64 (x14 + 1))) else (none))))) else (none)) else (none)) else (none)) else (none)) else (none))))) else (none)) else (none)) else (if 0 < (x5.length : Int) then (some (rdOf false x5 0)) else (none))
def impl_holds.f (k : Nat) (l0 : List (S82)) (a1 : Int) : Option (Bool) := impl_holds.l0 k a1 (([] : List Bool)) l0 (l0.length : Int) 0
def impl_holds.T7 : Bool × List (List Nat × List Nat) := (true, [([], []), ([], []), ([1], [1]), ([0, 2], [0, 2]), ([3], [3]), ([], []), ([], []), ([5, 6], [5, 6]), ([7], [7]), ([4, 0, 1, 2, 3, 4], [4]), ([8, 9, 0, 1, 2, 3, 4, 5, 6, 7, 8, 9], [8])])
def impl_holds.B7 : List Nat := [0, 0, 2, 7, 15, 0, 0, 96, 224, 31, 1023]
theorem impl_holds.tab7 : rtab .any (opsOf Tryd.f83 7) = impl_holds.T7 := by kernel_rfl
theorem impl_holds.bits7 : waitsOk impl_holds.T7.2 impl_holds.B7 = true := by kernel_rfl
def impl_holds.T18 : Bool × List (List Nat × List Nat) := (true, [([], []), ([], []), ([1], [1]), ([2], [2]), ([], []), ([4], [4]), ([3, 5], [3, 5]), ([6], [6]), ([0, 7, 3], [0, 7]), ([8, 8, 0, 1, 2, 3, 4, 5, 6, 7, 8], [0, 8])])
def impl_holds.B18 : List Nat := [0, 0, 2, 6, 0, 16, 62, 126, 255, 511]
theorem impl_holds.tab18 : rtab .any (opsOf Tryd.f83 18) = impl_holds.T18 := by kernel_rfl
theorem impl_holds.bits18 : waitsOk impl_holds.T18.2 impl_holds.B18 = true := by kernel_rfl
theorem impl_holds.calls (k : Nat) (A0 : Option Addr) (c0 : Nat) (l0 : List (S82)) (a1 : Int) (r : Bool) (w : World) (de : Kd.C k82 w A0 l0.length l0) (dg : l0.length ≤ c0) (h : impl_holds.f k l0 a1 = some r) :
  Calls Tryd.prog 83 #[.slice A0 l0.length c0, .int .i64 a1] w fun e w' => e = .returned (.bool r) ∧ Below w.heap.size w w' := by
 have fW := Tryd.underlying82
 have aj := mk_ de
 have gE := mk_ dg
 clear de dg
 have HB := mk_ (Below.refl w.heap.size w)
 have H : (impl_holds.l0 k a1 (([] : List Bool)) l0 (l0.length : Int) 0) = some r := h
 clear h
 obtain ⟨bF, aE⟩ : ∃ y_ : List Bool, y_ = (([] : List Bool)) := ⟨_, rfl⟩
 replace H : (impl_holds.l0 k a1 bF l0 (l0.length : Int) 0) = some r := by first | (rw [aE]; exact H) | exact H
 have bp := mk_ aE
 clear aE
 have H' := mk_ H
 clear H
 go_enter Tryd.func83, Tryd.ntmps83
 go_wp2_with (first | ((with_reducible refine gate_dst (N := 11) rfl ?_); refine Kd.R_lit Kd.bool _ 4 ?hg (N := 11) ?hd (xs := ([] : List Bool)) (inner := []) (ok := fun _ => True) (okp := fun _ => True) ?hr ?hp (fun _ hk => hk) trivial (Below.refl _ _) (Nat.le_refl _) (by simp) ?_; (case hd => rfl); (case hg => rfl); (case hr => first | (go_simp; done) | (go_simp; rfl)); (case hp => exact (Reps.none _ _)); intro fX w3 aX hb eX cE; clear eX cE; (first | rw [← bp.out] at aX | (simp only [Int.reduceToNat] at aX; rw [← bp.out] at aX)); have cF := mk_ (Kd.R_lower aX (below_size (below_at HB.out))); replace HB := hs_ HB hb; clear hb aX))
 go_loopg [5, 14] k (fun kq v5 eY w' => ∃ (j : List Bool) (a : Int), eY = .int .i64 a ∧ Aside0 (impl_holds.l0 kq a1 j l0 (l0.length : Int) a = some r) ∧ Aside0 (kq ≤ k) ∧ Aside0 (Kd.R Kd.bool 4 w' w.heap.size (fun _ => True) v5 j) ∧ Aside0 (Below w.heap.size w w'))
 case atStart => exact ⟨(bF), (0), sm_, H', ⟨Nat.le_refl _⟩, ⟨Kd.R_below cF.out lt_⟩, ⟨below_at HB.out⟩⟩
 clear H'
 obtain ⟨j, a, rfl, HA, X, d, HB⟩ := hrel
 cases gk with
 | zero => exact absurd HA.out (by simp [impl_holds.l0])
 | succ k1 =>
  have H := HA.out
  clear HA
  simp only [impl_holds.l0] at H
  revert H; refine ti_ (df_ fun dk H => ?_) (dt_ fun dk H => ?_)
  ·revert H; refine g_ (fun bG H => ?_)
   have eZ : decide (0 < (j.length : Int)) = true := decide_eq_true bG
   have e0 : decide (0 < j.length) = true := decide_eq_true (by omega)
   clear bG
   obtain rfl := Option.some.inj H
   obtain ⟨fs, ft, cG⟩ := Kd.R_slice d.out
   subst cG
   have a0 : 0 ≤ (0 : Int) := (by omega)
   have a2 : 0 < (j.length : Int) := oa_
   obtain ⟨fu, dl, aD⟩ := Kd.at_bool (Kd.R_reads' d.out).2.2 0 a0 a2
   cases dl
   have fv : (0 < j.length) = True := eq_true (by omega)
   (try rw [show ((0 : Int)).toNat = 0 from rfl] at aD)
   (try rw [Addr.add_zero'] at aD)
   replace a0 := eq_true a0
   replace a2 := eq_true a2
   go_wp2
   go_ret
   exact ⟨er_, below_at HB.out⟩
  revert H; refine g_ (dt_ fun fZ => g_ (dt_ fun f2 => it_ (qt_ fun dm dn H => ?_) (qfk_ fun c8 dm dn H => ?_)))
  ·revert H; refine g_ (et_ fun f3 f4 H => ?_)
   obtain ⟨aC, al⟩ : ∃ j_ : Int, (shr .i64 a1 ((rd_T82 l0 a).f1)) = j_ := ⟨_, rfl⟩
   first | rw [al] at H | simp only [al] at H
   have e1 : (a1 / 2 ^ min ((rd_T82 l0 a).f1).toNat 64) = aC := al
   have e2 : ((rd_T82 l0 a).f1) ≤ 64 → (a1 / 2 ^ ((rd_T82 l0 a).f1).toNat) = aC := shr_small al
   revert H; refine g_ (mt_ fun cH H => ?_)
   obtain ⟨dp, am⟩ : ∃ y_ : List Bool, y_ = (j ++ [((Go.bits .and .i64 (aC) 1) == 1)]) := ⟨_, rfl⟩
   first | (replace H := bn_ am H; try dsimp only at H) | rw [← am] at H
   have cI := mk_ am
   clear am
   have H' := mk_ H
   clear H
   obtain ⟨ac, O, x, y⟩ := at_T82 aj.out a oa_ oa_
   cases O
   replace x := cel HB.out x
   replace y := cel HB.out y
   obtain ⟨ag, ah⟩ := pq_ (a : Int) (l0.length : Int)
   go_wp2_with (first | (refine gx_ 7 #[.int .i64 0, .int .i64 0] 82 ?_; intro i hg gF G hb; replace d := mk_ (Kd.R_below (Kd.R_below d.out lt_) hb); have c := mk_ (G); have M := gm_ hg HB.out; have ad := M; replace HB := hs_ HB hb; clear hb G hg; obtain ⟨d2, d3, d4, d5⟩ := b2_ c; obtain ⟨dq, dr, du⟩ := Kd.R_slice d.out; subst du) | ((with_reducible refine gate_builtin (b := .append) (xs := #[.tmp 66, .tmp 73]) rfl ?_); at_builtin; refine Kd.R_append Kd.bool (w0 := w) w.heap.size rfl (.tmp 66) (.tmp 73) 63 4 (.bool false) 1 rfl Tryd.underlying63 info4 rfl (by decide) (by omega) (.slice dq j.length dr) j ((Go.bits .and .i64 (aC) 1) == 1) [.bool ((Go.bits .and .i64 (aC) 1) == 1)] (fun _ => True) (fun _ => False) rfl (by first | (go_simp; done) | (go_simp; rfl)) ?aP (fun _ hk => hk.elim) ?aF ?aO ?aB ?aS ?aL ?_; (case aP => exact rfl); (case aB => exact (at_ HB.out)); (case aF => exact (fun _ _ => trivial)); (case aO => exact (by (with_reducible repeat (first | apply Kd.R_alloc | apply Kd.R_drewN | apply Kd.R_drew)); exact Kd.R_mono (Kd.R_far (Kd.R_far (Kd.R_types d.out c.out (by decide)) (fun _ hk => hk.2) _) (fun _ hk => hk.2) _) (fun _ hk => trivial))); (case aS => exact (below_size (at_ HB.out))); (case aL => have := cH.out; omega); intro f5 gG ho hb hg hat; rw [← cI.out] at ho; replace HB := mk_ (hb); have cJ := mk_ (ho); (try clear c d); clear ho hb hg hat))
   go_roundg k1
   case measure => have := X.out; omega
   case rel => exact ⟨(dp), (wrap64 (a + 1)), sm_, H', ⟨by have := X.out; omega⟩, ⟨Kd.R_below cJ.out lt_⟩, ⟨at_ HB.out⟩⟩
  revert H; refine it_ (qt_ fun cK cL H => ?_) (qfk_ fun gH cK cL H => ?_)
  ·revert H; refine bd_ fun aG e3 H => ?_
   try dsimp only at H
   revert H; refine g_ (mt_ fun cM H => ?_)
   obtain ⟨dv, an⟩ : ∃ y_ : List Bool, y_ = (j ++ [decide (aG ≥ ((rd_T82 l0 a).f1))]) := ⟨_, rfl⟩
   first | (replace H := bn_ an H; try dsimp only at H) | rw [← an] at H
   have cN := mk_ an
   clear an
   have H' := mk_ H
   clear H
   obtain ⟨ac, O, x, y⟩ := at_T82 aj.out a oa_ oa_
   cases O
   replace x := cel HB.out x
   replace y := cel HB.out y
   obtain ⟨ag, ah⟩ := pq_ (a : Int) (l0.length : Int)
   try go_wp2_with (first | (refine gx_ 7 #[.int .i64 0, .int .i64 0] 82 ?_; intro i hg bq G hb; replace d := mk_ (Kd.R_below (Kd.R_below d.out lt_) hb); have c := mk_ (G); have M := gm_ hg HB.out; have ad := M; replace HB := hs_ HB hb; clear hb G hg; obtain ⟨d6, d7, d8, d9⟩ := b2_ c; obtain ⟨bH, bI, dw⟩ := Kd.R_slice d.out; subst dw))
   have I : Aside0 (Kd.R Kd.bool 4 ((bq.setCell ⟨i, 0, none⟩ (.int .i64 ((rd_T82 l0 a).f0))).setCell ⟨i, 1, none⟩ (.int .i64 ((rd_T82 l0 a).f1))) w.heap.size (fun _ => True) (.slice bH j.length bI) j) := ⟨by (with_reducible repeat (first | apply Kd.R_alloc | apply Kd.R_drewN | apply Kd.R_drew)); exact Kd.R_mono (Kd.R_far (Kd.R_far (Kd.R_types d.out c.out (by decide)) (fun _ hk => hk.2) _) (fun _ hk => hk.2) _) (fun _ hk => trivial)⟩
   have J : Aside0 (((bq.setCell ⟨i, 0, none⟩ (.int .i64 ((rd_T82 l0 a).f0))).setCell ⟨i, 1, none⟩ (.int .i64 ((rd_T82 l0 a).f1))).heap[i]? = some (.cells #[.int .i64 ((rd_T82 l0 a).f0), .int .i64 ((rd_T82 l0 a).f1)] 82 (0, 0))) := ⟨by refine bs_ ?_; refine blk_put (cs := #[.int .i64 ((rd_T82 l0 a).f0), .int .i64 0]) ?_ 1 _ rfl; refine bs_ ?_; refine blk_put (cs := #[.int .i64 0, .int .i64 0]) ?_ 0 _ rfl; refine bs_ ?_; exact c.out⟩
   have L : Aside0 (Below w.heap.size w ((bq.setCell ⟨i, 0, none⟩ (.int .i64 ((rd_T82 l0 a).f0))).setCell ⟨i, 1, none⟩ (.int .i64 ((rd_T82 l0 a).f1)))) := ⟨at_ HB.out⟩
   (try clear d)
   (try clear c)
   (try clear HB)
   generalize ((bq.setCell ⟨i, 0, none⟩ (.int .i64 ((rd_T82 l0 a).f0))).setCell ⟨i, 1, none⟩ (.int .i64 ((rd_T82 l0 a).f1))) = e4 at I J L ⊢
   have d := I
   have c := J
   have HB := L
   clear I J L
   replace d := mk_ (Kd.R_drew d.out)
   replace c := mk_ (blk_drew c.out)
   replace HB := mk_ (below_drew1 HB.out)
   refine start_ (n := 10) (S := fun w' => w'.cell? ⟨i, 0, none⟩ = some (.int .i64 ((rd_T82 l0 a).f0)) ∧ w'.cell? ⟨i, 1, none⟩ = some (.int .i64 ((rd_T82 l0 a).f1))) (ds := []) #[false, false, false, false, false, false, false, false, false, false] (by kernel_rfl) rfl rfl ⟨(blk_cell c.out 0).trans rfl, (blk_cell c.out 1).trans rfl⟩ (fun B => ?_); refine with_tabW impl_holds.tab18 impl_holds.bits18 (fun q Y => ?_)
   generalize e4.drew = gI at d c HB B ⊢
   refine pus_ 0 (some 77) (ao_ q) ?_
   refine pus_ 1 (some 78) (ao_ q) ?_
   refine pus_ 2 (some 79) (ao_ q) ?_
   refine pus_ 4 (some 81) (ao_ q) ?_
   refine tas_ 5 (some 82) (to_ q Y) B ?_
   refine ons_ 3 (some 80) (oo_ q) (fun K hK => ?_)
   refine goes_ Tryd.func94 (by kernel_rfl) rfl #[.int .u64 (IntKind.u64.wrap (a1))] (by rfl) rfl rfl gl_ ?_
   with_reducible refine (bits_OnesCount.calls (IntKind.u64.wrap (a1)) aG _ e3.out).mono ?_
   rintro e w' ⟨rfl, ⟨nd, rfl⟩⟩
   refine ⟨_, rfl, ?_⟩
   refine hK.out _ _ ⟨(blk_cell c.out 0).trans rfl, (blk_cell c.out 1).trans rfl⟩ (fun B => ?_)
   clear hK K
   refine nor_ (some 80) ?_
   refine pus_ 6 (some 83) (ao_ q) ?_
   refine ons_ 7 (some 84) (oo_ q) (fun K hK => ?_)
   refine value_ (w1 := ?_) (v := ?_) (by rfl) rfl ?_ ?_
   rotate_left 2
   ·go_simp
    constructor
    ·rfl
    rfl
   refine hK.out _ _ ⟨(blk_cell (blk_alloc c.out _) 0).trans rfl, (blk_cell (blk_alloc c.out _) 1).trans rfl⟩ (fun B => ?_)
   clear hK K
   refine nor_ (some 84) ?_
   refine ons_ 8 (some 85) (oo_ q) (fun K hK => ?_)
   refine Kd.R_append_step Kd.bool (w0 := w) w.heap.size (by rfl) (.tmp 77) (.tmp 84) 63 4 (.bool false) 1 rfl Tryd.underlying63 info4 rfl (by decide) (by omega) (.slice bH j.length bI) j (decide (aG ≥ ((rd_T82 l0 a).f1))) [.bool (decide (aG ≥ ((rd_T82 l0 a).f1)))] (fun _ => True) (fun _ => False) rfl rfl ?aP (fun _ hk => hk.elim) ?aF ?aO ?aB ?aS ?aL ?_
   (case aP => exact rfl)
   (case aB => exact (at_ HB.out))
   (case aF => exact (fun _ _ => trivial))
   (case aO => exact (Kd.R_below d.out lt_))
   (case aS => exact (below_size (at_ HB.out)))
   (case aL => have := cM.out; omega)
   intro f6 gJ ho hb hg hat
   rw [← cN.out] at ho
   replace c := mk_ (blk_grown (g := i) (o := .cells #[.int .i64 ((rd_T82 l0 a).f0), .int .i64 ((rd_T82 l0 a).f1)] 82 (0, 0)) (bk_ c.out) hg (Kd.R_ne d.out c.out (by decide)))
   replace HB := mk_ (hb)
   have cO := mk_ (ho)
   (try clear d)
   clear ho hb hg hat
   refine hK.out _ _ ⟨(blk_cell c.out 0).trans rfl, (blk_cell c.out 1).trans rfl⟩ (fun B => ?_)
   clear hK K
   refine nor_ (some 85) ?_
   refine pus_ 9 (some 5) (ao_ q) ?_
   refine done_ (done_of q.out (by kernel_rfl)) ?_
   try go_wp2
   go_roundg k1
   case measure => have := X.out; omega
   case rel => exact ⟨(dv), (wrap64 (a + 1)), sm_, H', ⟨by have := X.out; omega⟩, ⟨Kd.R_below cO.out lt_⟩, ⟨at_ HB.out⟩⟩
  revert H; refine it_ (qt_ fun cP cQ H => ?_) (qfk_ fun gK cP cQ H => ?_)
  ·obtain ⟨T, ao⟩ : ∃ j_ : Int, (wrap64 ((j.length : Int) - 1)) = j_ := ⟨_, rfl⟩
   first | rw [ao] at H | simp only [ao] at H
   have e5 : (IntKind.i64.wrap ((j.length : Int) - 1)) = T := (i64_w _).trans ao
   revert H; refine g_ (dt_ fun fw => g_ (dt_ fun fx H => ?_))
   obtain ⟨bJ, ap⟩ : ∃ y_ : List Bool, y_ = (j.set ((T) : Int).toNat (!(rdOf false j (T)))) := ⟨_, rfl⟩
   first | (replace H := bn_ ap H; try dsimp only at H) | rw [← ap] at H
   have cR := mk_ ap
   clear ap
   have H' := mk_ H
   clear H
   obtain ⟨ac, O, x, y⟩ := at_T82 aj.out a oa_ oa_
   cases O
   replace x := cel HB.out x
   replace y := cel HB.out y
   obtain ⟨ag, ah⟩ := pq_ (a : Int) (l0.length : Int)
   go_wp2_with (first | (refine gx_ 7 #[.int .i64 0, .int .i64 0] 82 ?_; intro i hg e6 G hb; replace d := mk_ (Kd.R_below (Kd.R_below d.out lt_) hb); have c := mk_ (G); have M := gm_ hg HB.out; have ad := M; replace HB := hs_ HB hb; clear hb G hg; obtain ⟨ea, eb, ec, ed⟩ := b2_ c) | ((with_reducible refine gate_store (t := 82) (p := 7) rfl ?_); refine store_event (t := 82) (p := 7) (v := ?vo_w32) (w1 := ((e6.setCell ⟨i, 0, none⟩ (.int .i64 ((rd_T82 l0 a).f0))).setCell ⟨i, 1, none⟩ (.int .i64 ((rd_T82 l0 a).f1)))) ?hg ?ho ?hn ?hr ?_; (case ho => rfl); (case hg => rfl); (case hn => rfl); (case hr => first | (go_simp; done) | (go_simp; rfl)); intro aY hw; have I : Aside0 (Kd.R Kd.bool 4 aY w.heap.size (fun _ => True) u5 j) := ⟨(by rw [hw]; exact (by (with_reducible repeat (first | apply Kd.R_alloc | apply Kd.R_drewN | apply Kd.R_drew)); exact Kd.R_mono (Kd.R_far (Kd.R_far (Kd.R_types d.out c.out (by decide)) (fun _ hk => hk.2) _) (fun _ hk => hk.2) _) (fun _ hk => trivial)))⟩; have J : Aside0 (aY.heap[i]? = some (.cells #[.int .i64 ((rd_T82 l0 a).f0), .int .i64 ((rd_T82 l0 a).f1)] 82 (0, 0))) := ⟨(by rw [hw]; exact (by refine bs_ ?_; refine blk_put (cs := #[.int .i64 ((rd_T82 l0 a).f0), .int .i64 0]) ?_ 1 _ rfl; refine bs_ ?_; refine blk_put (cs := #[.int .i64 0, .int .i64 0]) ?_ 0 _ rfl; refine bs_ ?_; exact c.out))⟩; have L : Aside0 (Below w.heap.size w aY) := ⟨(by rw [hw]; exact (at_ HB.out))⟩; clear hw; clear d; clear c; clear HB; have d := I; have c := J; have HB := L; clear I J L; obtain ⟨f7, dx, dy⟩ := Kd.R_slice d.out; subst dy; obtain ⟨ee, ef, eg, eh⟩ := b2_ c; obtain ⟨fy, dz, bD⟩ := Kd.at_bool (Kd.R_reads' d.out).2.2 (T) oa_ oa_; cases dz; obtain ⟨f8, f9⟩ := pq_ ((T) : Int) (j.length : Int); have bK : 0 ≤ ((T) : Int) := oa_; have bL : ((T) : Int) < ((j.length : Int) : Int) := oa_; obtain ⟨a3, ga, bM, bN, dA, gb, bO⟩ := Kd.R_form d.out (by omega); (first | cases bM | (injection bM with ea_ en_ ec_; (first | subst ea_ | (injection ea_ with ea_; subst ea_)); subst ec_; clear en_)); have dB := mk_ bN; have gf := mk_ bO; clear bN dA bO; (first | simp only [add_plain] at bD | skip); obtain ⟨e7, e8⟩ := Kd.R_celln false d.out ((T) : Int) bK bL; replace bK := eq_true bK; replace bL := eq_true bL; obtain ⟨fz, fA⟩ := Kd.R_celln false d.out ((T) : Int) (oa_) (oa_); have a4 := Kd.R_putg d.out ((T) : Int) (!(rdOf false j (T)))) | ((with_reducible refine gate_store (t := 4) (p := 95) rfl ?_); refine store_event (t := 4) (p := 95) (v := ?vo_w36) (w1 := (aY.setCell ⟨a3, ((T) : Int).toNat, none⟩ (.bool (!(rdOf false j (T)))))) ?hg ?ho ?hn ?hr ?_; (case ho => rfl); (case hg => rfl); (case hn => rfl); (case hr => first | (go_simp; done) | (go_simp; rfl)); intro bP hw; have hg : aY.grownBy bP (some a3) := (by rw [hw]; exact a4.2); have W : Kd.R Kd.bool 4 bP w.heap.size (fun _ => True) (.slice (some ⟨a3, 0, none⟩) j.length dx) bJ := (by rw [hw, cR.out]; exact a4.1); clear a4; replace d := mk_ (W); replace HB := mk_ ((by rw [hw]; exact below_set (HB.out) dB.out : Below w.heap.size w bP)); (try clear c); clear hg hw W))
   (try subst ao)
   go_roundg k1
   case measure => have := X.out; omega
   case rel => exact ⟨(bJ), (wrap64 (a + 1)), sm_, H', ⟨by have := X.out; omega⟩, ⟨Kd.R_below d.out lt_⟩, ⟨at_ HB.out⟩⟩
  obtain ⟨l, Z⟩ : ∃ j_ : Int, (wrap64 ((wrap64 ((j.length : Int) - 1)) - 1)) = j_ := ⟨_, rfl⟩
  first | rw [Z] at H | simp only [Z] at H
  have e9 : (IntKind.i64.wrap ((wrap64 ((j.length : Int) - 1)) - 1)) = l := (i64_w _).trans Z
  revert H; refine g_ (dt_ fun fB => g_ (dt_ fun fC H => ?_))
  obtain ⟨s, aa⟩ : ∃ j_ : Int, (wrap64 ((j.length : Int) - 1)) = j_ := ⟨_, rfl⟩
  (try have aH : (wrap64 (s - 1)) = l := by (rw [← aa]; exact Z))
  (try have cD : (IntKind.i64.wrap (s - 1)) = l := (i64_w _).trans aH)
  first | rw [aa] at H | simp only [aa] at H
  have fa : (IntKind.i64.wrap ((j.length : Int) - 1)) = s := (i64_w _).trans aa
  revert H; refine g_ (dt_ fun fD => g_ (dt_ fun fE => g_ (et_ fun fG fH H => ?_)))
  obtain ⟨E, aq⟩ : ∃ y_ : List Bool, y_ = (j.take ((s) : Int).toNat) := ⟨_, rfl⟩
  first | (replace H := bn_ aq H; try dsimp only at H) | rw [← aq] at H
  have U := mk_ aq
  clear aq
  revert H; refine it_ (qt_ fun cS cT H => ?_) (qfk_ fun gL cS cT H => ?_)
  ·obtain ⟨dC, aI⟩ : ∃ b_ : Bool, b_ = (rdOf false j (l)) := ⟨_, rfl⟩
   replace H : (if dC = true then (if (l) < (E.length : Int) then (impl_holds.l0 k1 a1 (E.set ((l) : Int).toNat (rdOf false j (s))) l0 (l0.length : Int) (wrap64 (a + 1))) else (none)) else (if (l) < (E.length : Int) then (impl_holds.l0 k1 a1 (E.set ((l) : Int).toNat false) l0 (l0.length : Int) (wrap64 (a + 1))) else (none))) = some r := by rw [← aI] at H; exact H
   have ar := mk_ aI
   clear aI
   revert H; refine ib_ ?_ ?_ <;> rintro rfl H
   ·revert H; refine g_ (dt_ fun fI H => ?_)
    obtain ⟨bQ, au⟩ : ∃ y_ : List Bool, y_ = (E.set ((l) : Int).toNat (rdOf false j (s))) := ⟨_, rfl⟩
    first | (replace H := bn_ au H; try dsimp only at H) | rw [← au] at H
    have cU := mk_ au
    clear au
    have H' := mk_ H
    clear H
    obtain ⟨ac, O, x, y⟩ := at_T82 aj.out a oa_ oa_
    cases O
    replace x := cel HB.out x
    replace y := cel HB.out y
    obtain ⟨ag, ah⟩ := pq_ (a : Int) (l0.length : Int)
    try go_wp2_with (first | (refine gx_ 7 #[.int .i64 0, .int .i64 0] 82 ?_; intro i hg br G hb; replace d := mk_ (Kd.R_below (Kd.R_below d.out lt_) hb); have c := mk_ (G); have M := gm_ hg HB.out; have ad := M; replace HB := hs_ HB hb; clear hb G hg; obtain ⟨ei, ej, ek, el⟩ := b2_ c; obtain ⟨dD, a5, dE⟩ := Kd.R_slice d.out; subst dE))
    have I : Aside0 (Kd.R Kd.bool 4 ((br.setCell ⟨i, 0, none⟩ (.int .i64 ((rd_T82 l0 a).f0))).setCell ⟨i, 1, none⟩ (.int .i64 ((rd_T82 l0 a).f1))) w.heap.size (fun _ => True) (.slice dD j.length a5) j) := ⟨by (with_reducible repeat (first | apply Kd.R_alloc | apply Kd.R_drewN | apply Kd.R_drew)); exact Kd.R_mono (Kd.R_far (Kd.R_far (Kd.R_types d.out c.out (by decide)) (fun _ hk => hk.2) _) (fun _ hk => hk.2) _) (fun _ hk => trivial)⟩
    have J : Aside0 (((br.setCell ⟨i, 0, none⟩ (.int .i64 ((rd_T82 l0 a).f0))).setCell ⟨i, 1, none⟩ (.int .i64 ((rd_T82 l0 a).f1))).heap[i]? = some (.cells #[.int .i64 ((rd_T82 l0 a).f0), .int .i64 ((rd_T82 l0 a).f1)] 82 (0, 0))) := ⟨by refine bs_ ?_; refine blk_put (cs := #[.int .i64 ((rd_T82 l0 a).f0), .int .i64 0]) ?_ 1 _ rfl; refine bs_ ?_; refine blk_put (cs := #[.int .i64 0, .int .i64 0]) ?_ 0 _ rfl; refine bs_ ?_; exact c.out⟩
    have L : Aside0 (Below w.heap.size w ((br.setCell ⟨i, 0, none⟩ (.int .i64 ((rd_T82 l0 a).f0))).setCell ⟨i, 1, none⟩ (.int .i64 ((rd_T82 l0 a).f1)))) := ⟨at_ HB.out⟩
    (try clear d)
    (try clear c)
    (try clear HB)
    generalize ((br.setCell ⟨i, 0, none⟩ (.int .i64 ((rd_T82 l0 a).f0))).setCell ⟨i, 1, none⟩ (.int .i64 ((rd_T82 l0 a).f1))) = fb at I J L ⊢
    have d := I
    have c := J
    have HB := L
    clear I J L
    replace d := mk_ (Kd.R_drew d.out)
    replace c := mk_ (blk_drew c.out)
    replace HB := mk_ (below_drew1 HB.out)
    obtain ⟨D, ae, z⟩ := Kd.at_bool (Kd.R_reads' d.out).2.2 (l) oa_ oa_
    (try rw [← ar.out] at z)
    cases ae
    obtain ⟨aJ, aK⟩ := pq_ ((l) : Int) (j.length : Int)
    obtain ⟨ab, af, A⟩ := Kd.at_bool (Kd.R_reads' d.out).2.2 (s) oa_ oa_
    (try rw [← ar.out] at A)
    obtain rfl : D = ab := (by injection af)
    obtain ⟨aM, aN⟩ := pq_ ((s) : Int) (j.length : Int)
    refine start_ (n := 11) (S := fun w' => w'.cell? (D.add ((l)).toNat) = some (.bool true) ∧ w'.cell? (D.add ((s)).toNat) = some (.bool (rdOf false j (s)))) (ds := []) #[false, false, false, false, false, false, false, false, false, false, false] (by kernel_rfl) rfl rfl ⟨z, A⟩ (fun B => ?_); refine with_tabW impl_holds.tab7 impl_holds.bits7 (fun q Y => ?_)
    generalize fb.drew = dh at d c HB z A B ⊢
    refine pus_ 0 (some 23) (ao_ q) ?_
    refine pus_ 1 (some 24) (ao_ q) ?_
    refine pus_ 2 (some 25) (ao_ q) ?_
    refine pus_ 3 (some 26) (ao_ q) ?_
    refine pus_ 5 (some 28) (ao_ q) ?_
    refine pus_ 6 (some 29) (ao_ q) ?_
    refine pus_ 7 (some 30) (ao_ q) ?_
    refine tas_ 4 (some 27) (to_ q Y) B ?_
    refine pus_ 9 (some 9) (ao_ q) ?_
    refine tas_ 8 (some 31) (to_ q Y) B ?_
    refine pus_ 10 (some 10) (ao_ q) ?_
    refine done_ (done_of q.out (by kernel_rfl)) ?_
    have bR : ((s) : Int) ≤ ((j.length : Int) : Int) := oa_
    obtain ⟨gg, bs, _, cV, _⟩ := info_parts info4
    have bS := cut_to (P := Tryd.prog) 63 4 .i64 Tryd.underlying63 bs (some D) j.length a5 (s) (oa_) bR (Kd.R_reads' d.out).2.1
    have aQ := Kd.R_take (m := ((s) : Int).toNat) d.out (by omega)
    have bT : E.length = ((s) : Int).toNat := (by rw [U.out, List.length_take]; omega)
    rw [← U.out] at aQ
    rw [← bT] at aQ bS
    clear bT bs cV d
    have u := mk_ aQ
    clear aQ
    replace bR := eq_true bR
    obtain ⟨em, en, eo, ep⟩ := b2_ c
    have bU : 0 ≤ ((l) : Int) := oa_
    have bV : ((l) : Int) < ((E.length : Int) : Int) := oa_
    obtain ⟨a6, gh, bW, bX, dF, gi, bY⟩ := Kd.R_form u.out (by omega)
    (first | cases bW | (injection bW with ea_ en_ ec_; (first | subst ea_ | (injection ea_ with ea_; subst ea_)); subst ec_; clear en_))
    have dG := mk_ bX
    have gj := mk_ bY
    clear bX dF bY
    (first | simp only [add_plain] at z | skip)
    (first | simp only [add_plain] at A | skip)
    obtain ⟨fc, fd⟩ := Kd.R_celln false u.out ((l) : Int) bU bV
    replace bU := eq_true bU
    replace bV := eq_true bV
    obtain ⟨fJ, fK⟩ := Kd.R_celln false u.out ((l) : Int) (oa_) (oa_)
    have a7 := Kd.R_putg u.out ((l) : Int) (rdOf false j (s))
    try go_wp2_with (first | ((with_reducible refine gate_store (t := 4) (p := 53) rfl ?_); refine store_event (t := 4) (p := 53) (v := ?vo_w57) (w1 := (dh.setCell ⟨a6, ((l) : Int).toNat, none⟩ (.bool (rdOf false j (s))))) ?hg ?ho ?hn ?hr ?_; (case ho => rfl); (case hg => rfl); (case hn => rfl); (case hr => first | (go_simp; done) | (go_simp; rfl)); intro bZ hw; have hg : dh.grownBy bZ (some a6) := (by rw [hw]; exact a7.2); have W : Kd.R Kd.bool 4 bZ w.heap.size (fun _ => True) (.slice (some ⟨a6, 0, none⟩) E.length a5) bQ := (by rw [hw, cU.out]; exact a7.1); clear a7; replace u := mk_ (W); replace HB := mk_ ((by rw [hw]; exact below_set (HB.out) dG.out : Below w.heap.size w bZ)); (try clear c); clear hg hw W))
    (try subst aa)
    (try subst Z)
    go_roundg k1
    case measure => have := X.out; omega
    case rel => exact ⟨(bQ), (wrap64 (a + 1)), sm_, H', ⟨by have := X.out; omega⟩, ⟨Kd.R_below u.out lt_⟩, ⟨at_ HB.out⟩⟩
   revert H; refine g_ (dt_ fun fL H => ?_)
   obtain ⟨b0, av⟩ : ∃ y_ : List Bool, y_ = (E.set ((l) : Int).toNat false) := ⟨_, rfl⟩
   first | (replace H := bn_ av H; try dsimp only at H) | rw [← av] at H
   have cW := mk_ av
   clear av
   have H' := mk_ H
   clear H
   obtain ⟨ac, O, x, y⟩ := at_T82 aj.out a oa_ oa_
   cases O
   replace x := cel HB.out x
   replace y := cel HB.out y
   obtain ⟨ag, ah⟩ := pq_ (a : Int) (l0.length : Int)
   try go_wp2_with (first | (refine gx_ 7 #[.int .i64 0, .int .i64 0] 82 ?_; intro i hg bu G hb; replace d := mk_ (Kd.R_below (Kd.R_below d.out lt_) hb); have c := mk_ (G); have M := gm_ hg HB.out; have ad := M; replace HB := hs_ HB hb; clear hb G hg; obtain ⟨er, es, eu, ew⟩ := b2_ c; obtain ⟨dH, a8, dI⟩ := Kd.R_slice d.out; subst dI))
   have I : Aside0 (Kd.R Kd.bool 4 ((bu.setCell ⟨i, 0, none⟩ (.int .i64 ((rd_T82 l0 a).f0))).setCell ⟨i, 1, none⟩ (.int .i64 ((rd_T82 l0 a).f1))) w.heap.size (fun _ => True) (.slice dH j.length a8) j) := ⟨by (with_reducible repeat (first | apply Kd.R_alloc | apply Kd.R_drewN | apply Kd.R_drew)); exact Kd.R_mono (Kd.R_far (Kd.R_far (Kd.R_types d.out c.out (by decide)) (fun _ hk => hk.2) _) (fun _ hk => hk.2) _) (fun _ hk => trivial)⟩
   have J : Aside0 (((bu.setCell ⟨i, 0, none⟩ (.int .i64 ((rd_T82 l0 a).f0))).setCell ⟨i, 1, none⟩ (.int .i64 ((rd_T82 l0 a).f1))).heap[i]? = some (.cells #[.int .i64 ((rd_T82 l0 a).f0), .int .i64 ((rd_T82 l0 a).f1)] 82 (0, 0))) := ⟨by refine bs_ ?_; refine blk_put (cs := #[.int .i64 ((rd_T82 l0 a).f0), .int .i64 0]) ?_ 1 _ rfl; refine bs_ ?_; refine blk_put (cs := #[.int .i64 0, .int .i64 0]) ?_ 0 _ rfl; refine bs_ ?_; exact c.out⟩
   have L : Aside0 (Below w.heap.size w ((bu.setCell ⟨i, 0, none⟩ (.int .i64 ((rd_T82 l0 a).f0))).setCell ⟨i, 1, none⟩ (.int .i64 ((rd_T82 l0 a).f1)))) := ⟨at_ HB.out⟩
   (try clear d)
   (try clear c)
   (try clear HB)
   generalize ((bu.setCell ⟨i, 0, none⟩ (.int .i64 ((rd_T82 l0 a).f0))).setCell ⟨i, 1, none⟩ (.int .i64 ((rd_T82 l0 a).f1))) = fe at I J L ⊢
   have d := I
   have c := J
   have HB := L
   clear I J L
   replace d := mk_ (Kd.R_drew d.out)
   replace c := mk_ (blk_drew c.out)
   replace HB := mk_ (below_drew1 HB.out)
   obtain ⟨D, ae, z⟩ := Kd.at_bool (Kd.R_reads' d.out).2.2 (l) oa_ oa_
   (try rw [← ar.out] at z)
   cases ae
   obtain ⟨aJ, aK⟩ := pq_ ((l) : Int) (j.length : Int)
   obtain ⟨ab, af, A⟩ := Kd.at_bool (Kd.R_reads' d.out).2.2 (s) oa_ oa_
   (try rw [← ar.out] at A)
   obtain rfl : D = ab := (by injection af)
   obtain ⟨aM, aN⟩ := pq_ ((s) : Int) (j.length : Int)
   refine start_ (n := 11) (S := fun w' => w'.cell? (D.add ((l)).toNat) = some (.bool false) ∧ w'.cell? (D.add ((s)).toNat) = some (.bool (rdOf false j (s)))) (ds := []) #[false, false, false, false, false, false, false, false, false, false, false] (by kernel_rfl) rfl rfl ⟨z, A⟩ (fun B => ?_); refine with_tabW impl_holds.tab7 impl_holds.bits7 (fun q Y => ?_)
   generalize fe.drew = w64 at d c HB z A B ⊢
   refine pus_ 0 (some 23) (ao_ q) ?_
   refine pus_ 1 (some 24) (ao_ q) ?_
   refine pus_ 2 (some 25) (ao_ q) ?_
   refine pus_ 3 (some 26) (ao_ q) ?_
   refine pus_ 5 (some 28) (ao_ q) ?_
   refine pus_ 6 (some 29) (ao_ q) ?_
   refine pus_ 7 (some 30) (ao_ q) ?_
   refine tas_ 4 (some 27) (to_ q Y) B ?_
   refine pus_ 9 (some 9) (ao_ q) ?_
   refine tas_ 8 (some 31) (to_ q Y) B ?_
   refine pus_ 10 (some 10) (ao_ q) ?_
   refine done_ (done_of q.out (by kernel_rfl)) ?_
   have b1 : ((s) : Int) ≤ ((j.length : Int) : Int) := oa_
   obtain ⟨gl, bv, _, cX, _⟩ := info_parts info4
   have b2 := cut_to (P := Tryd.prog) 63 4 .i64 Tryd.underlying63 bv (some D) j.length a8 (s) (oa_) b1 (Kd.R_reads' d.out).2.1
   have aR := Kd.R_take (m := ((s) : Int).toNat) d.out (by omega)
   have b3 : E.length = ((s) : Int).toNat := (by rw [U.out, List.length_take]; omega)
   rw [← U.out] at aR
   rw [← b3] at aR b2
   clear b3 bv cX d
   have u := mk_ aR
   clear aR
   replace b1 := eq_true b1
   obtain ⟨ex, ey, ez, eA⟩ := b2_ c
   have b4 : 0 ≤ ((l) : Int) := oa_
   have b5 : ((l) : Int) < ((E.length : Int) : Int) := oa_
   obtain ⟨a9, gn, b6, b7, dJ, gp, b8⟩ := Kd.R_form u.out (by omega)
   (first | cases b6 | (injection b6 with ea_ en_ ec_; (first | subst ea_ | (injection ea_ with ea_; subst ea_)); subst ec_; clear en_))
   have dK := mk_ b7
   have gq := mk_ b8
   clear b7 dJ b8
   (first | simp only [add_plain] at z | skip)
   (first | simp only [add_plain] at A | skip)
   obtain ⟨ff, fg⟩ := Kd.R_celln false u.out ((l) : Int) b4 b5
   replace b4 := eq_true b4
   replace b5 := eq_true b5
   obtain ⟨fM, fN⟩ := Kd.R_celln false u.out ((l) : Int) (oa_) (oa_)
   have ba := Kd.R_putg u.out ((l) : Int) false
   try go_wp2_with (first | ((with_reducible refine gate_store (t := 4) (p := 53) rfl ?_); refine store_event (t := 4) (p := 53) (v := ?vo_w68) (w1 := (w64.setCell ⟨a9, ((l) : Int).toNat, none⟩ (.bool false))) ?hg ?ho ?hn ?hr ?_; (case ho => rfl); (case hg => rfl); (case hn => rfl); (case hr => first | (go_simp; done) | (go_simp; rfl)); intro b9 hw; have hg : w64.grownBy b9 (some a9) := (by rw [hw]; exact ba.2); have W : Kd.R Kd.bool 4 b9 w.heap.size (fun _ => True) (.slice (some ⟨a9, 0, none⟩) E.length a8) b0 := (by rw [hw, cW.out]; exact ba.1); clear ba; replace u := mk_ (W); replace HB := mk_ ((by rw [hw]; exact below_set (HB.out) dK.out : Below w.heap.size w b9)); (try clear c); clear hg hw W))
   (try subst aa)
   (try subst Z)
   go_roundg k1
   case measure => have := X.out; omega
   case rel => exact ⟨(b0), (wrap64 (a + 1)), sm_, H', ⟨by have := X.out; omega⟩, ⟨Kd.R_below u.out lt_⟩, ⟨at_ HB.out⟩⟩
  revert H; refine ti_ (qfk_ fun gM cY cZ H => ?_) (qt_ fun cY cZ H => ?_)
  ·revert H; refine g_ (dt_ fun fO H => ?_)
   obtain ⟨ca, aw⟩ : ∃ y_ : List Bool, y_ = (E.set ((l) : Int).toNat ((rdOf false j (l)) == (rdOf false j (s)))) := ⟨_, rfl⟩
   first | (replace H := bn_ aw H; try dsimp only at H) | rw [← aw] at H
   have c1 := mk_ aw
   clear aw
   have H' := mk_ H
   clear H
   obtain ⟨ac, O, x, y⟩ := at_T82 aj.out a oa_ oa_
   cases O
   replace x := cel HB.out x
   replace y := cel HB.out y
   obtain ⟨ag, ah⟩ := pq_ (a : Int) (l0.length : Int)
   try go_wp2_with (first | (refine gx_ 7 #[.int .i64 0, .int .i64 0] 82 ?_; intro i hg bw G hb; replace d := mk_ (Kd.R_below (Kd.R_below d.out lt_) hb); have c := mk_ (G); have M := gm_ hg HB.out; have ad := M; replace HB := hs_ HB hb; clear hb G hg; obtain ⟨eB, eC, eD, eE⟩ := b2_ c; obtain ⟨dL, bb, dM⟩ := Kd.R_slice d.out; subst dM))
   have I : Aside0 (Kd.R Kd.bool 4 ((bw.setCell ⟨i, 0, none⟩ (.int .i64 ((rd_T82 l0 a).f0))).setCell ⟨i, 1, none⟩ (.int .i64 ((rd_T82 l0 a).f1))) w.heap.size (fun _ => True) (.slice dL j.length bb) j) := ⟨by (with_reducible repeat (first | apply Kd.R_alloc | apply Kd.R_drewN | apply Kd.R_drew)); exact Kd.R_mono (Kd.R_far (Kd.R_far (Kd.R_types d.out c.out (by decide)) (fun _ hk => hk.2) _) (fun _ hk => hk.2) _) (fun _ hk => trivial)⟩
   have J : Aside0 (((bw.setCell ⟨i, 0, none⟩ (.int .i64 ((rd_T82 l0 a).f0))).setCell ⟨i, 1, none⟩ (.int .i64 ((rd_T82 l0 a).f1))).heap[i]? = some (.cells #[.int .i64 ((rd_T82 l0 a).f0), .int .i64 ((rd_T82 l0 a).f1)] 82 (0, 0))) := ⟨by refine bs_ ?_; refine blk_put (cs := #[.int .i64 ((rd_T82 l0 a).f0), .int .i64 0]) ?_ 1 _ rfl; refine bs_ ?_; refine blk_put (cs := #[.int .i64 0, .int .i64 0]) ?_ 0 _ rfl; refine bs_ ?_; exact c.out⟩
   have L : Aside0 (Below w.heap.size w ((bw.setCell ⟨i, 0, none⟩ (.int .i64 ((rd_T82 l0 a).f0))).setCell ⟨i, 1, none⟩ (.int .i64 ((rd_T82 l0 a).f1)))) := ⟨at_ HB.out⟩
   (try clear d)
   (try clear c)
   (try clear HB)
   generalize ((bw.setCell ⟨i, 0, none⟩ (.int .i64 ((rd_T82 l0 a).f0))).setCell ⟨i, 1, none⟩ (.int .i64 ((rd_T82 l0 a).f1))) = fh at I J L ⊢
   have d := I
   have c := J
   have HB := L
   clear I J L
   replace d := mk_ (Kd.R_drew d.out)
   replace c := mk_ (blk_drew c.out)
   replace HB := mk_ (below_drew1 HB.out)
   obtain ⟨D, ae, z⟩ := Kd.at_bool (Kd.R_reads' d.out).2.2 (l) oa_ oa_
   cases ae
   obtain ⟨aJ, aK⟩ := pq_ ((l) : Int) (j.length : Int)
   obtain ⟨ab, af, A⟩ := Kd.at_bool (Kd.R_reads' d.out).2.2 (s) oa_ oa_
   obtain rfl : D = ab := (by injection af)
   obtain ⟨aM, aN⟩ := pq_ ((s) : Int) (j.length : Int)
   refine start_ (n := 11) (S := fun w' => w'.cell? (D.add ((l)).toNat) = some (.bool (rdOf false j (l))) ∧ w'.cell? (D.add ((s)).toNat) = some (.bool (rdOf false j (s)))) (ds := []) #[false, false, false, false, false, false, false, false, false, false, false] (by kernel_rfl) rfl rfl ⟨z, A⟩ (fun B => ?_); refine with_tabW impl_holds.tab7 impl_holds.bits7 (fun q Y => ?_)
   generalize fh.drew = cb at d c HB z A B ⊢
   refine pus_ 0 (some 23) (ao_ q) ?_
   refine pus_ 1 (some 24) (ao_ q) ?_
   refine pus_ 2 (some 25) (ao_ q) ?_
   refine pus_ 3 (some 26) (ao_ q) ?_
   refine pus_ 5 (some 28) (ao_ q) ?_
   refine pus_ 6 (some 29) (ao_ q) ?_
   refine pus_ 7 (some 30) (ao_ q) ?_
   refine tas_ 4 (some 27) (to_ q Y) B ?_
   refine pus_ 9 (some 9) (ao_ q) ?_
   refine tas_ 8 (some 31) (to_ q Y) B ?_
   refine pus_ 10 (some 10) (ao_ q) ?_
   refine done_ (done_of q.out (by kernel_rfl)) ?_
   have bc : ((s) : Int) ≤ ((j.length : Int) : Int) := oa_
   obtain ⟨fP, aZ, _, cc, _⟩ := info_parts info4
   have bE := cut_to (P := Tryd.prog) 63 4 .i64 Tryd.underlying63 aZ (some D) j.length bb (s) (oa_) bc (Kd.R_reads' d.out).2.1
   have ax := Kd.R_take (m := ((s) : Int).toNat) d.out (by omega)
   have bx : E.length = ((s) : Int).toNat := (by rw [U.out, List.length_take]; omega)
   rw [← U.out] at ax
   rw [← bx] at ax bE
   clear bx aZ cc d
   have u := mk_ ax
   clear ax
   replace bc := eq_true bc
   obtain ⟨dN, dO, dP, dQ⟩ := b2_ c
   have cd : 0 ≤ ((l) : Int) := oa_
   have ce : ((l) : Int) < ((E.length : Int) : Int) := oa_
   obtain ⟨be, gr, cf, cg, dR, gs, ch⟩ := Kd.R_form u.out (by omega)
   (first | cases cf | (injection cf with ea_ en_ ec_; (first | subst ea_ | (injection ea_ with ea_; subst ea_)); subst ec_; clear en_))
   have dS := mk_ cg
   have gt := mk_ ch
   clear cg dR ch
   (first | simp only [add_plain] at z | skip)
   (first | simp only [add_plain] at A | skip)
   obtain ⟨fi, fj⟩ := Kd.R_celln false u.out ((l) : Int) cd ce
   replace cd := eq_true cd
   replace ce := eq_true ce
   obtain ⟨fk, fl⟩ := Kd.R_celln false u.out ((l) : Int) (oa_) (oa_)
   have aT := Kd.R_putg u.out ((l) : Int) ((rdOf false j (l)) == (rdOf false j (s)))
   try go_wp2_with (first | ((with_reducible refine gate_store (t := 4) (p := 43) rfl ?_); refine store_event (t := 4) (p := 43) (v := ?vo_w104) (w1 := (cb.setCell ⟨be, ((l) : Int).toNat, none⟩ (.bool ((rdOf false j (l)) == (rdOf false j (s)))))) ?hg ?ho ?hn ?hr ?_; (case ho => rfl); (case hg => rfl); (case hn => rfl); (case hr => first | (go_simp; done) | (go_simp; rfl)); intro bf hw; have hg : cb.grownBy bf (some be) := (by rw [hw]; exact aT.2); have W : Kd.R Kd.bool 4 bf w.heap.size (fun _ => True) (.slice (some ⟨be, 0, none⟩) E.length bb) ca := (by rw [hw, c1.out]; exact aT.1); clear aT; replace u := mk_ (W); replace HB := mk_ ((by rw [hw]; exact below_set (HB.out) dS.out : Below w.heap.size w bf)); (try clear c); clear hg hw W))
   (try subst aa)
   (try subst Z)
   go_roundg k1
   case measure => have := X.out; omega
   case rel => exact ⟨(ca), (wrap64 (a + 1)), sm_, H', ⟨by have := X.out; omega⟩, ⟨Kd.R_below u.out lt_⟩, ⟨at_ HB.out⟩⟩
  obtain ⟨dT, aU⟩ : ∃ b_ : Bool, b_ = (rdOf false j (l)) := ⟨_, rfl⟩
  replace H : (if dT = true then (if (l) < (E.length : Int) then (impl_holds.l0 k1 a1 (E.set ((l) : Int).toNat true) l0 (l0.length : Int) (wrap64 (a + 1))) else (none)) else (if (l) < (E.length : Int) then (impl_holds.l0 k1 a1 (E.set ((l) : Int).toNat (rdOf false j (s))) l0 (l0.length : Int) (wrap64 (a + 1))) else (none))) = some r := by rw [← aU] at H; exact H
  have ay := mk_ aU
  clear aU
  revert H; refine ib_ ?_ ?_ <;> rintro rfl H
  ·revert H; refine g_ (dt_ fun fQ H => ?_)
   obtain ⟨ci, az⟩ : ∃ y_ : List Bool, y_ = (E.set ((l) : Int).toNat true) := ⟨_, rfl⟩
   first | (replace H := bn_ az H; try dsimp only at H) | rw [← az] at H
   have da := mk_ az
   clear az
   have H' := mk_ H
   clear H
   obtain ⟨ac, O, x, y⟩ := at_T82 aj.out a oa_ oa_
   cases O
   replace x := cel HB.out x
   replace y := cel HB.out y
   obtain ⟨ag, ah⟩ := pq_ (a : Int) (l0.length : Int)
   try go_wp2_with (first | (refine gx_ 7 #[.int .i64 0, .int .i64 0] 82 ?_; intro i hg bz G hb; replace d := mk_ (Kd.R_below (Kd.R_below d.out lt_) hb); have c := mk_ (G); have M := gm_ hg HB.out; have ad := M; replace HB := hs_ HB hb; clear hb G hg; obtain ⟨eF, eG, eH, eI⟩ := b2_ c; obtain ⟨dU, bg, dV⟩ := Kd.R_slice d.out; subst dV))
   have I : Aside0 (Kd.R Kd.bool 4 ((bz.setCell ⟨i, 0, none⟩ (.int .i64 ((rd_T82 l0 a).f0))).setCell ⟨i, 1, none⟩ (.int .i64 ((rd_T82 l0 a).f1))) w.heap.size (fun _ => True) (.slice dU j.length bg) j) := ⟨by (with_reducible repeat (first | apply Kd.R_alloc | apply Kd.R_drewN | apply Kd.R_drew)); exact Kd.R_mono (Kd.R_far (Kd.R_far (Kd.R_types d.out c.out (by decide)) (fun _ hk => hk.2) _) (fun _ hk => hk.2) _) (fun _ hk => trivial)⟩
   have J : Aside0 (((bz.setCell ⟨i, 0, none⟩ (.int .i64 ((rd_T82 l0 a).f0))).setCell ⟨i, 1, none⟩ (.int .i64 ((rd_T82 l0 a).f1))).heap[i]? = some (.cells #[.int .i64 ((rd_T82 l0 a).f0), .int .i64 ((rd_T82 l0 a).f1)] 82 (0, 0))) := ⟨by refine bs_ ?_; refine blk_put (cs := #[.int .i64 ((rd_T82 l0 a).f0), .int .i64 0]) ?_ 1 _ rfl; refine bs_ ?_; refine blk_put (cs := #[.int .i64 0, .int .i64 0]) ?_ 0 _ rfl; refine bs_ ?_; exact c.out⟩
   have L : Aside0 (Below w.heap.size w ((bz.setCell ⟨i, 0, none⟩ (.int .i64 ((rd_T82 l0 a).f0))).setCell ⟨i, 1, none⟩ (.int .i64 ((rd_T82 l0 a).f1)))) := ⟨at_ HB.out⟩
   (try clear d)
   (try clear c)
   (try clear HB)
   generalize ((bz.setCell ⟨i, 0, none⟩ (.int .i64 ((rd_T82 l0 a).f0))).setCell ⟨i, 1, none⟩ (.int .i64 ((rd_T82 l0 a).f1))) = fm at I J L ⊢
   have d := I
   have c := J
   have HB := L
   clear I J L
   replace d := mk_ (Kd.R_drew d.out)
   replace c := mk_ (blk_drew c.out)
   replace HB := mk_ (below_drew1 HB.out)
   obtain ⟨D, ae, z⟩ := Kd.at_bool (Kd.R_reads' d.out).2.2 (l) oa_ oa_
   (try rw [← ay.out] at z)
   cases ae
   obtain ⟨aJ, aK⟩ := pq_ ((l) : Int) (j.length : Int)
   obtain ⟨ab, af, A⟩ := Kd.at_bool (Kd.R_reads' d.out).2.2 (s) oa_ oa_
   (try rw [← ay.out] at A)
   obtain rfl : D = ab := (by injection af)
   obtain ⟨aM, aN⟩ := pq_ ((s) : Int) (j.length : Int)
   refine start_ (n := 11) (S := fun w' => w'.cell? (D.add ((l)).toNat) = some (.bool true) ∧ w'.cell? (D.add ((s)).toNat) = some (.bool (rdOf false j (s)))) (ds := []) #[false, false, false, false, false, false, false, false, false, false, false] (by kernel_rfl) rfl rfl ⟨z, A⟩ (fun B => ?_); refine with_tabW impl_holds.tab7 impl_holds.bits7 (fun q Y => ?_)
   generalize fm.drew = di at d c HB z A B ⊢
   refine pus_ 0 (some 23) (ao_ q) ?_
   refine pus_ 1 (some 24) (ao_ q) ?_
   refine pus_ 2 (some 25) (ao_ q) ?_
   refine pus_ 3 (some 26) (ao_ q) ?_
   refine pus_ 5 (some 28) (ao_ q) ?_
   refine pus_ 6 (some 29) (ao_ q) ?_
   refine pus_ 7 (some 30) (ao_ q) ?_
   refine tas_ 4 (some 27) (to_ q Y) B ?_
   refine pus_ 9 (some 9) (ao_ q) ?_
   refine tas_ 8 (some 31) (to_ q Y) B ?_
   refine pus_ 10 (some 10) (ao_ q) ?_
   refine done_ (done_of q.out (by kernel_rfl)) ?_
   have cj : ((s) : Int) ≤ ((j.length : Int) : Int) := oa_
   obtain ⟨gu, bA, _, db, _⟩ := info_parts info4
   have ck := cut_to (P := Tryd.prog) 63 4 .i64 Tryd.underlying63 bA (some D) j.length bg (s) (oa_) cj (Kd.R_reads' d.out).2.1
   have aV := Kd.R_take (m := ((s) : Int).toNat) d.out (by omega)
   have cl : E.length = ((s) : Int).toNat := (by rw [U.out, List.length_take]; omega)
   rw [← U.out] at aV
   rw [← cl] at aV ck
   clear cl bA db d
   have u := mk_ aV
   clear aV
   replace cj := eq_true cj
   obtain ⟨eJ, eK, eL, eM⟩ := b2_ c
   have cm : 0 ≤ ((l) : Int) := oa_
   have cn : ((l) : Int) < ((E.length : Int) : Int) := oa_
   obtain ⟨bh, gv, co, cp, dW, gy, cq⟩ := Kd.R_form u.out (by omega)
   (first | cases co | (injection co with ea_ en_ ec_; (first | subst ea_ | (injection ea_ with ea_; subst ea_)); subst ec_; clear en_))
   have dX := mk_ cp
   have gz := mk_ cq
   clear cp dW cq
   (first | simp only [add_plain] at z | skip)
   (first | simp only [add_plain] at A | skip)
   obtain ⟨fn, fo⟩ := Kd.R_celln false u.out ((l) : Int) cm cn
   replace cm := eq_true cm
   replace cn := eq_true cn
   obtain ⟨fR, fS⟩ := Kd.R_celln false u.out ((l) : Int) (oa_) (oa_)
   have bj := Kd.R_putg u.out ((l) : Int) true
   try go_wp2_with (first | ((with_reducible refine gate_store (t := 4) (p := 63) rfl ?_); refine store_event (t := 4) (p := 63) (v := ?vo_w82) (w1 := (di.setCell ⟨bh, ((l) : Int).toNat, none⟩ (.bool true))) ?hg ?ho ?hn ?hr ?_; (case ho => rfl); (case hg => rfl); (case hn => rfl); (case hr => first | (go_simp; done) | (go_simp; rfl)); intro cr hw; have hg : di.grownBy cr (some bh) := (by rw [hw]; exact bj.2); have W : Kd.R Kd.bool 4 cr w.heap.size (fun _ => True) (.slice (some ⟨bh, 0, none⟩) E.length bg) ci := (by rw [hw, da.out]; exact bj.1); clear bj; replace u := mk_ (W); replace HB := mk_ ((by rw [hw]; exact below_set (HB.out) dX.out : Below w.heap.size w cr)); (try clear c); clear hg hw W))
   (try subst aa)
   (try subst Z)
   go_roundg k1
   case measure => have := X.out; omega
   case rel => exact ⟨(ci), (wrap64 (a + 1)), sm_, H', ⟨by have := X.out; omega⟩, ⟨Kd.R_below u.out lt_⟩, ⟨at_ HB.out⟩⟩
  revert H; refine g_ (dt_ fun fT H => ?_)
  obtain ⟨ct, aA⟩ : ∃ y_ : List Bool, y_ = (E.set ((l) : Int).toNat (rdOf false j (s))) := ⟨_, rfl⟩
  first | (replace H := bn_ aA H; try dsimp only at H) | rw [← aA] at H
  have dc := mk_ aA
  clear aA
  have H' := mk_ H
  clear H
  obtain ⟨ac, O, x, y⟩ := at_T82 aj.out a oa_ oa_
  cases O
  replace x := cel HB.out x
  replace y := cel HB.out y
  obtain ⟨ag, ah⟩ := pq_ (a : Int) (l0.length : Int)
  try go_wp2_with (first | (refine gx_ 7 #[.int .i64 0, .int .i64 0] 82 ?_; intro i hg bB G hb; replace d := mk_ (Kd.R_below (Kd.R_below d.out lt_) hb); have c := mk_ (G); have M := gm_ hg HB.out; have ad := M; replace HB := hs_ HB hb; clear hb G hg; obtain ⟨eN, eO, eP, eQ⟩ := b2_ c; obtain ⟨dY, bk, dZ⟩ := Kd.R_slice d.out; subst dZ))
  have I : Aside0 (Kd.R Kd.bool 4 ((bB.setCell ⟨i, 0, none⟩ (.int .i64 ((rd_T82 l0 a).f0))).setCell ⟨i, 1, none⟩ (.int .i64 ((rd_T82 l0 a).f1))) w.heap.size (fun _ => True) (.slice dY j.length bk) j) := ⟨by (with_reducible repeat (first | apply Kd.R_alloc | apply Kd.R_drewN | apply Kd.R_drew)); exact Kd.R_mono (Kd.R_far (Kd.R_far (Kd.R_types d.out c.out (by decide)) (fun _ hk => hk.2) _) (fun _ hk => hk.2) _) (fun _ hk => trivial)⟩
  have J : Aside0 (((bB.setCell ⟨i, 0, none⟩ (.int .i64 ((rd_T82 l0 a).f0))).setCell ⟨i, 1, none⟩ (.int .i64 ((rd_T82 l0 a).f1))).heap[i]? = some (.cells #[.int .i64 ((rd_T82 l0 a).f0), .int .i64 ((rd_T82 l0 a).f1)] 82 (0, 0))) := ⟨by refine bs_ ?_; refine blk_put (cs := #[.int .i64 ((rd_T82 l0 a).f0), .int .i64 0]) ?_ 1 _ rfl; refine bs_ ?_; refine blk_put (cs := #[.int .i64 0, .int .i64 0]) ?_ 0 _ rfl; refine bs_ ?_; exact c.out⟩
  have L : Aside0 (Below w.heap.size w ((bB.setCell ⟨i, 0, none⟩ (.int .i64 ((rd_T82 l0 a).f0))).setCell ⟨i, 1, none⟩ (.int .i64 ((rd_T82 l0 a).f1)))) := ⟨at_ HB.out⟩
  (try clear d)
  (try clear c)
  (try clear HB)
  generalize ((bB.setCell ⟨i, 0, none⟩ (.int .i64 ((rd_T82 l0 a).f0))).setCell ⟨i, 1, none⟩ (.int .i64 ((rd_T82 l0 a).f1))) = fp at I J L ⊢
  have d := I
  have c := J
  have HB := L
  clear I J L
  replace d := mk_ (Kd.R_drew d.out)
  replace c := mk_ (blk_drew c.out)
  replace HB := mk_ (below_drew1 HB.out)
  obtain ⟨D, ae, z⟩ := Kd.at_bool (Kd.R_reads' d.out).2.2 (l) oa_ oa_
  (try rw [← ay.out] at z)
  cases ae
  obtain ⟨aJ, aK⟩ := pq_ ((l) : Int) (j.length : Int)
  obtain ⟨ab, af, A⟩ := Kd.at_bool (Kd.R_reads' d.out).2.2 (s) oa_ oa_
  (try rw [← ay.out] at A)
  obtain rfl : D = ab := (by injection af)
  obtain ⟨aM, aN⟩ := pq_ ((s) : Int) (j.length : Int)
  refine start_ (n := 11) (S := fun w' => w'.cell? (D.add ((l)).toNat) = some (.bool false) ∧ w'.cell? (D.add ((s)).toNat) = some (.bool (rdOf false j (s)))) (ds := []) #[false, false, false, false, false, false, false, false, false, false, false] (by kernel_rfl) rfl rfl ⟨z, A⟩ (fun B => ?_); refine with_tabW impl_holds.tab7 impl_holds.bits7 (fun q Y => ?_)
  generalize fp.drew = dj at d c HB z A B ⊢
  refine pus_ 0 (some 23) (ao_ q) ?_
  refine pus_ 1 (some 24) (ao_ q) ?_
  refine pus_ 2 (some 25) (ao_ q) ?_
  refine pus_ 3 (some 26) (ao_ q) ?_
  refine pus_ 5 (some 28) (ao_ q) ?_
  refine pus_ 6 (some 29) (ao_ q) ?_
  refine pus_ 7 (some 30) (ao_ q) ?_
  refine tas_ 4 (some 27) (to_ q Y) B ?_
  refine pus_ 9 (some 9) (ao_ q) ?_
  refine tas_ 8 (some 31) (to_ q Y) B ?_
  refine pus_ 10 (some 10) (ao_ q) ?_
  refine done_ (done_of q.out (by kernel_rfl)) ?_
  have cu : ((s) : Int) ≤ ((j.length : Int) : Int) := oa_
  obtain ⟨gA, bC, _, dd, _⟩ := info_parts info4
  have cv := cut_to (P := Tryd.prog) 63 4 .i64 Tryd.underlying63 bC (some D) j.length bk (s) (oa_) cu (Kd.R_reads' d.out).2.1
  have aW := Kd.R_take (m := ((s) : Int).toNat) d.out (by omega)
  have cw : E.length = ((s) : Int).toNat := (by rw [U.out, List.length_take]; omega)
  rw [← U.out] at aW
  rw [← cw] at aW cv
  clear cw bC dd d
  have u := mk_ aW
  clear aW
  replace cu := eq_true cu
  obtain ⟨eR, eS, eT, eU⟩ := b2_ c
  have cx : 0 ≤ ((l) : Int) := oa_
  have cy : ((l) : Int) < ((E.length : Int) : Int) := oa_
  obtain ⟨bn, gB, cz, cA, d0, gC, cB⟩ := Kd.R_form u.out (by omega)
  (first | cases cz | (injection cz with ea_ en_ ec_; (first | subst ea_ | (injection ea_ with ea_; subst ea_)); subst ec_; clear en_))
  have d1 := mk_ cA
  have gD := mk_ cB
  clear cA d0 cB
  (first | simp only [add_plain] at z | skip)
  (first | simp only [add_plain] at A | skip)
  obtain ⟨fq, fr⟩ := Kd.R_celln false u.out ((l) : Int) cx cy
  replace cx := eq_true cx
  replace cy := eq_true cy
  obtain ⟨fU, fV⟩ := Kd.R_celln false u.out ((l) : Int) (oa_) (oa_)
  have bo := Kd.R_putg u.out ((l) : Int) (rdOf false j (s))
  try go_wp2_with (first | ((with_reducible refine gate_store (t := 4) (p := 63) rfl ?_); refine store_event (t := 4) (p := 63) (v := ?vo_w93) (w1 := (dj.setCell ⟨bn, ((l) : Int).toNat, none⟩ (.bool (rdOf false j (s))))) ?hg ?ho ?hn ?hr ?_; (case ho => rfl); (case hg => rfl); (case hn => rfl); (case hr => first | (go_simp; done) | (go_simp; rfl)); intro cC hw; have hg : dj.grownBy cC (some bn) := (by rw [hw]; exact bo.2); have W : Kd.R Kd.bool 4 cC w.heap.size (fun _ => True) (.slice (some ⟨bn, 0, none⟩) E.length bk) ct := (by rw [hw, dc.out]; exact bo.1); clear bo; replace u := mk_ (W); replace HB := mk_ ((by rw [hw]; exact below_set (HB.out) d1.out : Below w.heap.size w cC)); (try clear c); clear hg hw W))
  (try subst aa)
  (try subst Z)
  go_roundg k1
  case measure => have := X.out; omega
  case rel => exact ⟨(ct), (wrap64 (a + 1)), sm_, H', ⟨by have := X.out; omega⟩, ⟨Kd.R_below u.out lt_⟩, ⟨at_ HB.out⟩⟩
end Go.Proofs.YtcaogllnbpmcgaaDoor.P

/- Go's functions come to just the answers of the Lean functions told here. -/
import Derived.Test.YtcaogllnbpmcgaaDoorPx13
set_option maxHeartbeats 8000000
set_option maxRecDepth 100000
namespace Go.Proofs.YtcaogllnbpmcgaaDoor.P
open Go.RowKit Go.Proofs.YtcaogllnbpmcgaaDoorW.PrintWords Go.Proofs.YtcaogllnbpmcgaaDoorW.PrintLast Go.Proofs.YtcaogllnbpmcgaaDoorW.PrintMore
attribute [local go_sem] max2_int min2_int max_two min_two max_three min_three max_four min_four
set_option linter.unusedVariables false
set_option linter.unusedSimpArgs false
def impl_caseText.f : Nat → Int → List (S68) → Int → Option (ByteArray)
 | 0, _, _, _ => none
 | k + 1, a0_0, l0_1, a1 => if a1 = (-1) then (some (⟨#[42]⟩ : ByteArray)) else (if a1 < 0 then ((strconv_Itoa_56.f (wrap64 ((-2) - a1))).bind fun t161 => (some t161)) else (if 0 ≤ a1 then (if a1 < (l0_1.length : Int) then ((some (([(wrap64 (97 + ((rd_T68 l0_1 a1).f0))) % 256] : List Int) : List Int)).bind fun y164 => (if (strOfNums y164).size + 1 ≤ 9223372036854775807 then ((impl_caseText.f k a0_0 l0_1 ((rd_T68 l0_1 a1).f1)).bind fun t167 => (if ((strOfNums y164) ++ (⟨#[40]⟩ : ByteArray)).size + t167.size ≤ 9223372036854775807 then (if (((strOfNums y164) ++ (⟨#[40]⟩ : ByteArray)) ++ t167).size + 1 ≤ 9223372036854775807 then ((impl_caseText.f k a0_0 l0_1 ((rd_T68 l0_1 a1).f2)).bind fun t168 => (if ((((strOfNums y164) ++ (⟨#[40]⟩ : ByteArray)) ++ t167) ++ (⟨#[44]⟩ : ByteArray)).size + t168.size ≤ 9223372036854775807 then (if (((((strOfNums y164) ++ (⟨#[40]⟩ : ByteArray)) ++ t167) ++ (⟨#[44]⟩ : ByteArray)) ++ t168).size + 1 ≤ 9223372036854775807 then (some ((((((strOfNums y164) ++ (⟨#[40]⟩ : ByteArray)) ++ t167) ++ (⟨#[44]⟩ : ByteArray)) ++ t168) ++ (⟨#[41]⟩ : ByteArray))) else (none)) else (none))) else (none)) else (none))) else (none))) else (none)) else (none)))
def impl_caseText.T6 : Bool × List (List Nat × List Nat) := (true, [([], []), ([0], [0]), ([1], [1]), ([2], [2]), ([3], [3]), ([4], [4]), ([5], [5]), ([], []), ([], []), ([8], [8]), ([7, 9], [7, 9]), ([6, 10], [6, 10]), ([11], [11]), ([], []), ([], []), ([14], [14]), ([13, 15, 10], [13, 15]), ([12, 16], [12, 16]), ([17], [17]), ([18, 16, 0, 1, 2, 3, 4, 5, 6, 7, 8, 9, 10, 11, 12, 13, 14, 15, 16, 17, 18], [18])])
def impl_caseText.B6 : List Nat := [0, 1, 3, 7, 15, 31, 63, 0, 0, 256, 896, 2047, 4095, 0, 0, 16384, 59264, 131071, 262143, 524287]
theorem impl_caseText.tab6 : rtab .any (opsOf Tryd.f31 6) = impl_caseText.T6 := by kernel_rfl
theorem impl_caseText.bits6 : waitsOk impl_caseText.T6.2 impl_caseText.B6 = true := by kernel_rfl
theorem impl_caseText.calls (k : Nat) : ∀ (m : Int) (ac : Option Addr) (t : Nat) (a : List (S68)) (g : Int) (r : ByteArray) (w : World) (am : Kd.C k68 w ac a.length a) (an : a.length ≤ t) (h : impl_caseText.f k m a g = some r),
  Calls Tryd.prog 31 #[.agg #[.int .i64 m, .slice ac a.length t], .int .i64 g] w fun e w' => e = .returned (.string r) ∧ Below w.heap.size w w' := by
 induction k using Nat.strongRecOn with
 | _ k ih =>
 intro m ac t a g r w am an h
 cases k with
 | zero => exact absurd h (by simp [impl_caseText.f])
 | succ k =>
 simp only [impl_caseText.f] at h
 have bz := Tryd.underlying27
 have bA := Tryd.underlying68
 have U := mk_ am
 have X := mk_ an
 clear am an
 have HB := mk_ (Below.refl w.heap.size w)
 have H : (if g = (-1) then (some (⟨#[42]⟩ : ByteArray)) else (if g < 0 then ((strconv_Itoa_56.f (wrap64 ((-2) - g))).bind fun ao => (some ao)) else (if 0 ≤ g then (if g < (a.length : Int) then ((some (([(wrap64 (97 + ((rd_T68 a g).f0))) % 256] : List Int) : List Int)).bind fun q => (if (strOfNums q).size + 1 ≤ 9223372036854775807 then ((impl_caseText.f k m a ((rd_T68 a g).f1)).bind fun u => (if ((strOfNums q) ++ (⟨#[40]⟩ : ByteArray)).size + u.size ≤ 9223372036854775807 then (if (((strOfNums q) ++ (⟨#[40]⟩ : ByteArray)) ++ u).size + 1 ≤ 9223372036854775807 then ((impl_caseText.f k m a ((rd_T68 a g).f2)).bind fun I => (if ((((strOfNums q) ++ (⟨#[40]⟩ : ByteArray)) ++ u) ++ (⟨#[44]⟩ : ByteArray)).size + I.size ≤ 9223372036854775807 then (if (((((strOfNums q) ++ (⟨#[40]⟩ : ByteArray)) ++ u) ++ (⟨#[44]⟩ : ByteArray)) ++ I).size + 1 ≤ 9223372036854775807 then (some ((((((strOfNums q) ++ (⟨#[40]⟩ : ByteArray)) ++ u) ++ (⟨#[44]⟩ : ByteArray)) ++ I) ++ (⟨#[41]⟩ : ByteArray))) else (none)) else (none))) else (none)) else (none))) else (none))) else (none)) else (none)))) = some r := h
 clear h
 revert H; refine it_ (qt_ fun aV aW H => ?_) (qfk_ fun c3 aV aW H => ?_)
 ·obtain rfl := Option.some.inj H
  go_enter Tryd.func31, Tryd.ntmps31
  go_wp2_with (first | (refine gx_ 2 #[.int .i64 m, .slice ac a.length t] 27 ?_; intro o hg w4 W hb; have aa := gm_ hg HB.out; have av := aa; replace HB := hs_ HB hb; clear hb W hg))
  go_ret
  exact ⟨er_, at_ HB.out⟩
 revert H; refine it_ (dt_ fun aX H => ?_) (df_ fun aX H => ?_)
 ·replace H := Option.bind_eq_some_iff.mp H
  obtain ⟨ao, aU, H⟩ := H
  replace H : (some ao) = some r := H
  have A6 := mk_ aU
  clear aU
  obtain rfl := Option.some.inj H
  go_enter Tryd.func31, Tryd.ntmps31
  go_wp2_with (first | (refine gx_ 2 #[.int .i64 m, .slice ac a.length t] 27 ?_; intro o hg w7 W hb; have aa := gm_ hg HB.out; have av := aa; replace HB := hs_ HB hb; clear hb W hg) | (refine gc_ 56 (some 14) Tryd.func56 #[.int .i64 (wrap64 ((-2) - g))] ?_; (with_reducible refine (strconv_Itoa_56.calls (wrap64 ((-2) - g)) ao _ A6.out).mono ?_); rintro e w' ⟨rfl, ⟨nd, rfl⟩⟩; refine ⟨_, rfl, ?_⟩))
  go_ret
  exact ⟨er_, at_ HB.out⟩
 revert H; refine g_ (dt_ fun bC => g_ (dt_ fun bD H => ?_))
 obtain ⟨q, ae⟩ : ∃ y_ : List Int, y_ = (([(wrap64 (97 + ((rd_T68 a g).f0))) % 256] : List Int)) := ⟨_, rfl⟩
 first | (replace H := bn_ ae H; try dsimp only at H) | rw [← ae] at H
 have Y := mk_ ae
 clear ae
 revert H; refine g_ (fun c10 H => ?_)
 have bg := eq_true c10
 have bh : decide ((strOfNums q).size + 1 ≤ 9223372036854775807) = true := decide_eq_true c10
 try have bj : (9223372036854775807 < (strOfNums q).size + 1) = False := eq_false (Nat.not_lt.2 c10)
 revert H; refine bd_ fun u ay H => ?_
 try dsimp only at H
 revert H; refine g_ (fun az H => ?_)
 have bk := eq_true az
 have bn : decide (((strOfNums q) ++ (⟨#[40]⟩ : ByteArray)).size + u.size ≤ 9223372036854775807) = true := decide_eq_true az
 try have aH : (9223372036854775807 < ((strOfNums q) ++ (⟨#[40]⟩ : ByteArray)).size + u.size) = False := eq_false (Nat.not_lt.2 az)
 try (have aI := aH; simp only [ByteArray.size_append', show (⟨#[40]⟩ : ByteArray).size = 1 from rfl] at aI)
 revert H; refine g_ (fun aA H => ?_)
 have bo := eq_true aA
 have bp : decide ((((strOfNums q) ++ (⟨#[40]⟩ : ByteArray)) ++ u).size + 1 ≤ 9223372036854775807) = true := decide_eq_true aA
 try have aJ : (9223372036854775807 < (((strOfNums q) ++ (⟨#[40]⟩ : ByteArray)) ++ u).size + 1) = False := eq_false (Nat.not_lt.2 aA)
 try (have aK := aJ; simp only [ByteArray.size_append', show (⟨#[40]⟩ : ByteArray).size = 1 from rfl] at aK)
 revert H; refine bd_ fun I aB H => ?_
 try dsimp only at H
 revert H; refine g_ (fun aC H => ?_)
 have bq := eq_true aC
 have br : decide (((((strOfNums q) ++ (⟨#[40]⟩ : ByteArray)) ++ u) ++ (⟨#[44]⟩ : ByteArray)).size + I.size ≤ 9223372036854775807) = true := decide_eq_true aC
 try have aL : (9223372036854775807 < ((((strOfNums q) ++ (⟨#[40]⟩ : ByteArray)) ++ u) ++ (⟨#[44]⟩ : ByteArray)).size + I.size) = False := eq_false (Nat.not_lt.2 aC)
 try (have aM := aL; simp only [ByteArray.size_append', show (⟨#[40]⟩ : ByteArray).size = 1 from rfl, show (⟨#[44]⟩ : ByteArray).size = 1 from rfl] at aM)
 revert H; refine g_ (fun aD H => ?_)
 have bs := eq_true aD
 have bu : decide ((((((strOfNums q) ++ (⟨#[40]⟩ : ByteArray)) ++ u) ++ (⟨#[44]⟩ : ByteArray)) ++ I).size + 1 ≤ 9223372036854775807) = true := decide_eq_true aD
 try have aN : (9223372036854775807 < (((((strOfNums q) ++ (⟨#[40]⟩ : ByteArray)) ++ u) ++ (⟨#[44]⟩ : ByteArray)) ++ I).size + 1) = False := eq_false (Nat.not_lt.2 aD)
 try (have aO := aN; simp only [ByteArray.size_append', show (⟨#[40]⟩ : ByteArray).size = 1 from rfl, show (⟨#[44]⟩ : ByteArray).size = 1 from rfl] at aO)
 obtain rfl := Option.some.inj H
 go_enter Tryd.func31, Tryd.ntmps31
 try go_wp2_with (first | (refine gx_ 2 #[.int .i64 m, .slice ac a.length t] 27 ?_; intro o hg bG W hb; have c := mk_ (W); have aa := gm_ hg HB.out; have av := aa; replace HB := hs_ HB hb; clear hb W hg; obtain ⟨a0, a2, a3, a4⟩ := b2_ c; obtain ⟨s, aY, aj, ak, al⟩ := at_T68 U.out g oa_ oa_; cases aY; replace aj := cel HB.out aj; replace ak := cel HB.out ak; replace al := cel HB.out al; obtain ⟨bE, bF⟩ := pq_ (g : Int) (a.length : Int)) | (refine gx_ 5 #[.int .i64 0, .int .i64 0, .int .i64 0] 68 ?_; intro d hg aw W hb; have b := mk_ (W); have aP := gw_ hg HB.out; have bv := aP; replace HB := ht_ HB hb; have T := nl_ hg c.out; have ap := ng_ hg c.out; replace c := mk_ (blk_at c.out hb); clear hb W hg; have bw := ap.out; have bx := T.out; obtain ⟨a5, a6, a7, a8, a9, ba⟩ := b3_ b))
 have y : Aside0 ((((aw.setCell ⟨d, 0, none⟩ (.int .i64 ((rd_T68 a g).f0))).setCell ⟨d, 1, none⟩ (.int .i64 ((rd_T68 a g).f1))).setCell ⟨d, 2, none⟩ (.int .i64 ((rd_T68 a g).f2))).heap[o]? = some (.cells #[.int .i64 m, .slice (some s) a.length t] 27 (0, 0))) := ⟨by refine bs_ ?_; refine blk_far ?_ T.out _; refine bs_ ?_; refine blk_far ?_ T.out _; refine bs_ ?_; refine blk_far ?_ T.out _; refine bs_ ?_; exact c.out⟩
 have z : Aside0 ((((aw.setCell ⟨d, 0, none⟩ (.int .i64 ((rd_T68 a g).f0))).setCell ⟨d, 1, none⟩ (.int .i64 ((rd_T68 a g).f1))).setCell ⟨d, 2, none⟩ (.int .i64 ((rd_T68 a g).f2))).heap[d]? = some (.cells #[.int .i64 ((rd_T68 a g).f0), .int .i64 ((rd_T68 a g).f1), .int .i64 ((rd_T68 a g).f2)] 68 (0, 0))) := ⟨by refine bs_ ?_; refine blk_put (cs := #[.int .i64 ((rd_T68 a g).f0), .int .i64 ((rd_T68 a g).f1), .int .i64 0]) ?_ 2 _ rfl; refine bs_ ?_; refine blk_put (cs := #[.int .i64 ((rd_T68 a g).f0), .int .i64 0, .int .i64 0]) ?_ 1 _ rfl; refine bs_ ?_; refine blk_put (cs := #[.int .i64 0, .int .i64 0, .int .i64 0]) ?_ 0 _ rfl; refine bs_ ?_; exact b.out⟩
 have A : Aside0 (Below w.heap.size w (((aw.setCell ⟨d, 0, none⟩ (.int .i64 ((rd_T68 a g).f0))).setCell ⟨d, 1, none⟩ (.int .i64 ((rd_T68 a g).f1))).setCell ⟨d, 2, none⟩ (.int .i64 ((rd_T68 a g).f2)))) := ⟨at_ HB.out⟩
 (try clear c)
 (try clear b)
 (try clear HB)
 generalize (((aw.setCell ⟨d, 0, none⟩ (.int .i64 ((rd_T68 a g).f0))).setCell ⟨d, 1, none⟩ (.int .i64 ((rd_T68 a g).f1))).setCell ⟨d, 2, none⟩ (.int .i64 ((rd_T68 a g).f2))) = bb at y z A ⊢
 have c := y
 have b := z
 have HB := A
 clear y z A
 replace c := mk_ (blk_drew c.out)
 replace b := mk_ (blk_drew b.out)
 replace HB := mk_ (below_drew1 HB.out)
 refine start_ (n := 20) (S := fun w' => w'.cell? ⟨d, 0, none⟩ = some (.int .i64 ((rd_T68 a g).f0)) ∧ w'.cell? ⟨d, 1, none⟩ = some (.int .i64 ((rd_T68 a g).f1)) ∧ w'.cell? ⟨d, 2, none⟩ = some (.int .i64 ((rd_T68 a g).f2)) ∧ w'.cell? ⟨o, 0, none⟩ = some (.int .i64 m) ∧ w'.cell? ⟨o, 1, none⟩ = some (.slice (some s) a.length t)) (ds := []) #[false, false, false, false, false, false, false, false, false, false, false, false, false, false, false, false, false, false, false, false] (by kernel_rfl) rfl rfl ⟨(blk_cell b.out 0).trans rfl, (blk_cell b.out 1).trans rfl, (blk_cell b.out 2).trans rfl, (blk_cell c.out 0).trans rfl, (blk_cell c.out 1).trans rfl⟩ (fun l => ?_); refine with_tabW impl_caseText.tab6 impl_caseText.bits6 (fun x aq => ?_)
 generalize bb.drew = bH at c b HB l ⊢
 refine pus_ 0 (some 20) (ao_ x) ?_
 refine pus_ 8 (some 28) (ao_ x) ?_
 refine pus_ 14 (some 34) (ao_ x) ?_
 refine tas_ 1 (some 21) (to_ x aq) l ?_
 refine pus_ 2 (some 22) (ao_ x) ?_
 refine pus_ 3 (some 23) (ao_ x) ?_
 refine tas_ 7 (some 27) (to_ x aq) l ?_
 refine tas_ 9 (some 29) (to_ x aq) l ?_
 refine tas_ 13 (some 33) (to_ x aq) l ?_
 refine tas_ 15 (some 35) (to_ x aq) l ?_
 refine join_ (σ := Value) 3 #[true, true, true, true, true, true, true, true, true, true, true, true, true, true, true, true, true, false, false, false] (fun s_ => [(24, s_), (25, .string (strOfNums q)), (30, .string u), (36, .string I), (26, .string ((strOfNums q) ++ (⟨#[40]⟩ : ByteArray))), (31, .string (((strOfNums q) ++ (⟨#[40]⟩ : ByteArray)) ++ u)), (32, .string ((((strOfNums q) ++ (⟨#[40]⟩ : ByteArray)) ++ u) ++ (⟨#[44]⟩ : ByteArray)))]) (fun s_ w' => (w'.cell? ⟨d, 0, none⟩ = some (.int .i64 ((rd_T68 a g).f0)) ∧ w'.cell? ⟨d, 1, none⟩ = some (.int .i64 ((rd_T68 a g).f1)) ∧ w'.cell? ⟨d, 2, none⟩ = some (.int .i64 ((rd_T68 a g).f2)) ∧ w'.cell? ⟨o, 0, none⟩ = some (.int .i64 m) ∧ w'.cell? ⟨o, 1, none⟩ = some (.slice (some s) a.length t)) ∧ (Kd.R (Kd.int .u8) 5 w' w.heap.size (fun _ => True) s_ q) ∧ (w'.heap[o]? = some (.cells #[.int .i64 m, .slice (some s) a.length t] 27 (0, 0))) ∧ (w'.heap[d]? = some (.cells #[.int .i64 ((rd_T68 a g).f0), .int .i64 ((rd_T68 a g).f1), .int .i64 ((rd_T68 a g).f2)] 68 (0, 0))) ∧ (Below w.heap.size w w')) ?_ ?_
 rotate_left
 ·intro Z
  refine join_ (σ := Value) 4 #[true, true, true, true, true, true, true, true, true, true, true, true, true, true, true, true, false, false, false, false] (fun s_ => [(24, s_), (25, .string (strOfNums q)), (30, .string u), (26, .string ((strOfNums q) ++ (⟨#[40]⟩ : ByteArray))), (31, .string (((strOfNums q) ++ (⟨#[40]⟩ : ByteArray)) ++ u)), (32, .string ((((strOfNums q) ++ (⟨#[40]⟩ : ByteArray)) ++ u) ++ (⟨#[44]⟩ : ByteArray)))]) (fun s_ w' => (w'.cell? ⟨d, 0, none⟩ = some (.int .i64 ((rd_T68 a g).f0)) ∧ w'.cell? ⟨d, 1, none⟩ = some (.int .i64 ((rd_T68 a g).f1)) ∧ w'.cell? ⟨d, 2, none⟩ = some (.int .i64 ((rd_T68 a g).f2)) ∧ w'.cell? ⟨o, 0, none⟩ = some (.int .i64 m) ∧ w'.cell? ⟨o, 1, none⟩ = some (.slice (some s) a.length t)) ∧ (Kd.R (Kd.int .u8) 5 w' w.heap.size (fun _ => True) s_ q) ∧ (w'.heap[o]? = some (.cells #[.int .i64 m, .slice (some s) a.length t] 27 (0, 0))) ∧ (w'.heap[d]? = some (.cells #[.int .i64 ((rd_T68 a g).f0), .int .i64 ((rd_T68 a g).f1), .int .i64 ((rd_T68 a g).f2)] 68 (0, 0))) ∧ (Below w.heap.size w w')) ?_ ?_
  rotate_left
  rotate_left
  ·skip
   rintro B aE ⟨O, D, E, G, J⟩
   have y := mk_ D
   have z := mk_ E
   have A := mk_ G
   have L := mk_ J
   clear c
   clear b
   clear HB
   clear D E G J
   have p := y
   have c := z
   have b := A
   have HB := L
   clear y z A L
   have l := O
   refine norm_ (a' := ?_) ?_ ?_
   rotate_left
   ·simp only [putAll, Act.put, z0_, z1_, z2_]
    rfl
   refine ons_ 16 (some 36) (oo_ x) (fun K hK => ?_)
   refine goes_ Tryd.func31 (by kernel_rfl) rfl #[.agg #[.int .i64 m, .slice (some s) a.length t], .int .i64 ((rd_T68 a g).f2)] (by rfl) rfl rfl gl_ ?_
   with_reducible refine (ih k (by omega) m _ _ a ((rd_T68 a g).f2) I _ ?side1 ?side2 aB.out).mono ?_
   (case side1 => exact Kd.C_below (Kd.C_below U.out HB.out) lt_)
   (case side2 => exact X.out)
   rintro e bc ⟨rfl, hb⟩
   refine ⟨_, rfl, ?_⟩
   replace p := mk_ (Kd.R_below (Kd.R_below p.out lt_) hb)
   replace c := mk_ (blk_at c.out hb)
   replace b := mk_ (blk_at b.out hb)
   replace HB := ht_ HB hb
   (try clear hb)
   (try clear hb2)
   (try clear hk)
   (try clear hi)
   refine hK.out _ _ ⟨(blk_cell b.out 0).trans rfl, (blk_cell b.out 1).trans rfl, (blk_cell b.out 2).trans rfl, (blk_cell c.out 0).trans rfl, (blk_cell c.out 1).trans rfl⟩ (fun l => ?_)
   clear hK K
   refine nor_ (some 36) ?_
   exact norm_ (by first | (simp only [putAll, Act.put, z0_, z1_, z2_]; done) | (simp only [putAll, Act.put, z0_, z1_, z2_]; rfl)) (Z (B) _ ⟨l, (Kd.R_below p.out lt_), (bk_ c.out), (bk_ b.out), (at_ HB.out)⟩)
  intro af
  refine join_ (σ := Value) 7 #[true, true, true, true, true, false, false, true, true, true, true, false, false, true, true, true, true, false, false, false] (fun s_ => [(24, s_), (30, .string u), (36, .string I)]) (fun s_ w' => (w'.cell? ⟨d, 0, none⟩ = some (.int .i64 ((rd_T68 a g).f0)) ∧ w'.cell? ⟨d, 1, none⟩ = some (.int .i64 ((rd_T68 a g).f1)) ∧ w'.cell? ⟨d, 2, none⟩ = some (.int .i64 ((rd_T68 a g).f2)) ∧ w'.cell? ⟨o, 0, none⟩ = some (.int .i64 m) ∧ w'.cell? ⟨o, 1, none⟩ = some (.slice (some s) a.length t)) ∧ (Kd.R (Kd.int .u8) 5 w' w.heap.size (fun _ => True) s_ q) ∧ (w'.heap[o]? = some (.cells #[.int .i64 m, .slice (some s) a.length t] 27 (0, 0))) ∧ (w'.heap[d]? = some (.cells #[.int .i64 ((rd_T68 a g).f0), .int .i64 ((rd_T68 a g).f1), .int .i64 ((rd_T68 a g).f2)] 68 (0, 0))) ∧ (Below w.heap.size w w')) ?_ ?_
  rotate_left
  rotate_left
  ·skip
   rintro B aE ⟨O, D, E, G, J⟩
   have y := mk_ D
   have z := mk_ E
   have A := mk_ G
   have L := mk_ J
   clear c
   clear b
   clear HB
   clear D E G J
   have p := y
   have c := z
   have b := A
   have HB := L
   clear y z A L
   have l := O
   refine norm_ (a' := ?_) ?_ ?_
   rotate_left
   ·simp only [putAll, Act.put, z0_, z1_, z2_]
    rfl
   refine ons_ 5 (some 25) (oo_ x) (fun K hK => ?_)
   have aQ := own_string (P := Tryd.prog) Tryd.underlying22 Tryd.underlying5 Tryd.underlying9 (Kd.own_of_R p.out)
   refine value_ (w1 := ?_) (v := ?_) (by rfl) rfl ?_ ?_
   rotate_left 2
   ·go_simp
    constructor
    ·rfl
    rfl
   clear aQ
   refine hK.out _ _ ⟨(blk_cell b.out 0).trans rfl, (blk_cell b.out 1).trans rfl, (blk_cell b.out 2).trans rfl, (blk_cell c.out 0).trans rfl, (blk_cell c.out 1).trans rfl⟩ (fun l => ?_)
   clear hK K
   refine nor_ (some 25) ?_
   refine pus_ 6 (some 26) (ao_ x) ?_
   refine pus_ 11 (some 31) (ao_ x) ?_
   refine pus_ 12 (some 32) (ao_ x) ?_
   exact norm_ (by first | (simp only [putAll, Act.put, z0_, z1_, z2_]; done) | (simp only [putAll, Act.put, z0_, z1_, z2_]; rfl)) (Z (B) _ ⟨l, (Kd.R_below p.out lt_), (bk_ c.out), (bk_ b.out), (at_ HB.out)⟩)
  intro ad
  refine join_ (σ := Value) 7 #[true, true, true, true, true, true, true, true, true, true, false, false, false, true, true, true, false, false, false, false] (fun s_ => [(24, s_), (25, .string (strOfNums q)), (26, .string ((strOfNums q) ++ (⟨#[40]⟩ : ByteArray)))]) (fun s_ w' => (w'.cell? ⟨d, 0, none⟩ = some (.int .i64 ((rd_T68 a g).f0)) ∧ w'.cell? ⟨d, 1, none⟩ = some (.int .i64 ((rd_T68 a g).f1)) ∧ w'.cell? ⟨d, 2, none⟩ = some (.int .i64 ((rd_T68 a g).f2)) ∧ w'.cell? ⟨o, 0, none⟩ = some (.int .i64 m) ∧ w'.cell? ⟨o, 1, none⟩ = some (.slice (some s) a.length t)) ∧ (Kd.R (Kd.int .u8) 5 w' w.heap.size (fun _ => True) s_ q) ∧ (w'.heap[o]? = some (.cells #[.int .i64 m, .slice (some s) a.length t] 27 (0, 0))) ∧ (w'.heap[d]? = some (.cells #[.int .i64 ((rd_T68 a g).f0), .int .i64 ((rd_T68 a g).f1), .int .i64 ((rd_T68 a g).f2)] 68 (0, 0))) ∧ (Below w.heap.size w w')) ?_ ?_
  rotate_left
  rotate_left
  ·skip
   rintro B aF ⟨O, D, E, G, J⟩
   have y := mk_ D
   have z := mk_ E
   have A := mk_ G
   have L := mk_ J
   clear c
   clear b
   clear HB
   clear D E G J
   have p := y
   have c := z
   have b := A
   have HB := L
   clear y z A L
   have l := O
   refine norm_ (a' := ?_) ?_ ?_
   rotate_left
   ·simp only [putAll, Act.put, z0_, z1_, z2_]
    rfl
   refine ons_ 10 (some 30) (oo_ x) (fun K hK => ?_)
   refine goes_ Tryd.func31 (by kernel_rfl) rfl #[.agg #[.int .i64 m, .slice (some s) a.length t], .int .i64 ((rd_T68 a g).f1)] (by rfl) rfl rfl gl_ ?_
   with_reducible refine (ih k (by omega) m _ _ a ((rd_T68 a g).f1) u _ ?side1 ?side2 ay.out).mono ?_
   (case side1 => exact Kd.C_below (Kd.C_below U.out HB.out) lt_)
   (case side2 => exact X.out)
   rintro e aE ⟨rfl, hb⟩
   refine ⟨_, rfl, ?_⟩
   replace p := mk_ (Kd.R_below (Kd.R_below p.out lt_) hb)
   replace c := mk_ (blk_at c.out hb)
   replace b := mk_ (blk_at b.out hb)
   replace HB := ht_ HB hb
   (try clear hb)
   (try clear hb2)
   (try clear hk)
   (try clear hi)
   refine hK.out _ _ ⟨(blk_cell b.out 0).trans rfl, (blk_cell b.out 1).trans rfl, (blk_cell b.out 2).trans rfl, (blk_cell c.out 0).trans rfl, (blk_cell c.out 1).trans rfl⟩ (fun l => ?_)
   clear hK K
   refine nor_ (some 30) ?_
   refine pus_ 11 (some 31) (ao_ x) ?_
   refine pus_ 12 (some 32) (ao_ x) ?_
   exact norm_ (by first | (simp only [putAll, Act.put, z0_, z1_, z2_]; done) | (simp only [putAll, Act.put, z0_, z1_, z2_]; rfl)) (af (B) _ ⟨l, (Kd.R_below p.out lt_), (bk_ c.out), (bk_ b.out), (at_ HB.out)⟩)
  intro aR
  refine join_ (σ := Value) 8 #[true, true, true, true, true, false, false, true, true, true, true, false, false, true, true, true, false, false, false, false] (fun s_ => [(24, s_), (30, .string u)]) (fun s_ w' => (w'.cell? ⟨d, 0, none⟩ = some (.int .i64 ((rd_T68 a g).f0)) ∧ w'.cell? ⟨d, 1, none⟩ = some (.int .i64 ((rd_T68 a g).f1)) ∧ w'.cell? ⟨d, 2, none⟩ = some (.int .i64 ((rd_T68 a g).f2)) ∧ w'.cell? ⟨o, 0, none⟩ = some (.int .i64 m) ∧ w'.cell? ⟨o, 1, none⟩ = some (.slice (some s) a.length t)) ∧ (Kd.R (Kd.int .u8) 5 w' w.heap.size (fun _ => True) s_ q) ∧ (w'.heap[o]? = some (.cells #[.int .i64 m, .slice (some s) a.length t] 27 (0, 0))) ∧ (w'.heap[d]? = some (.cells #[.int .i64 ((rd_T68 a g).f0), .int .i64 ((rd_T68 a g).f1), .int .i64 ((rd_T68 a g).f2)] 68 (0, 0))) ∧ (Below w.heap.size w w')) ?_ ?_
  rotate_left
  rotate_left
  ·skip
   rintro B aF ⟨O, D, E, G, J⟩
   have y := mk_ D
   have z := mk_ E
   have A := mk_ G
   have L := mk_ J
   clear c
   clear b
   clear HB
   clear D E G J
   have p := y
   have c := z
   have b := A
   have HB := L
   clear y z A L
   have l := O
   refine norm_ (a' := ?_) ?_ ?_
   rotate_left
   ·simp only [putAll, Act.put, z0_, z1_, z2_]
    rfl
   refine two_ (i := 5) (j := 16) (Ni := some 25) (Nj := some 36) #[true, true, true, true, true, true, false, true, true, true, true, false, false, true, true, true, false, false, false, false] #[true, true, true, true, true, false, false, true, true, true, true, false, false, true, true, true, true, false, false, false] rfl rfl rfl rfl (two_of x.out (by kernel_rfl)) (by decide) (by decide) (fun K hK => ?_) (fun K hK => ?_)
   rotate_left
   ·skip
    refine goes_ Tryd.func31 (by kernel_rfl) rfl #[.agg #[.int .i64 m, .slice (some s) a.length t], .int .i64 ((rd_T68 a g).f2)] (by rfl) rfl rfl gl_ ?_
    with_reducible refine (ih k (by omega) m _ _ a ((rd_T68 a g).f2) I _ ?side1 ?side2 aB.out).mono ?_
    (case side1 => exact Kd.C_below (Kd.C_below U.out HB.out) lt_)
    (case side2 => exact X.out)
    rintro e aE ⟨rfl, hb⟩
    refine ⟨_, rfl, ?_⟩
    replace p := mk_ (Kd.R_below (Kd.R_below p.out lt_) hb)
    replace c := mk_ (blk_at c.out hb)
    replace b := mk_ (blk_at b.out hb)
    replace HB := ht_ HB hb
    (try clear hb)
    (try clear hb2)
    (try clear hk)
    (try clear hi)
    refine hK.out _ _ ⟨(blk_cell b.out 0).trans rfl, (blk_cell b.out 1).trans rfl, (blk_cell b.out 2).trans rfl, (blk_cell c.out 0).trans rfl, (blk_cell c.out 1).trans rfl⟩ (fun l => ?_)
    clear hK K
    refine nor_ (some 36) ?_
    exact norm_ (by first | (simp only [putAll, Act.put, z0_, z1_, z2_]; done) | (simp only [putAll, Act.put, z0_, z1_, z2_]; rfl)) (ad (B) _ ⟨l, (Kd.R_below p.out lt_), (bk_ c.out), (bk_ b.out), (at_ HB.out)⟩)
   skip
   have aS := own_string (P := Tryd.prog) Tryd.underlying22 Tryd.underlying5 Tryd.underlying9 (Kd.own_of_R p.out)
   refine value_ (w1 := ?_) (v := ?_) (by rfl) rfl ?_ ?_
   rotate_left 2
   ·go_simp
    constructor
    ·rfl
    rfl
   clear aS
   refine hK.out _ _ ⟨(blk_cell b.out 0).trans rfl, (blk_cell b.out 1).trans rfl, (blk_cell b.out 2).trans rfl, (blk_cell c.out 0).trans rfl, (blk_cell c.out 1).trans rfl⟩ (fun l => ?_)
   clear hK K
   refine nor_ (some 25) ?_
   refine pus_ 6 (some 26) (ao_ x) ?_
   refine pus_ 11 (some 31) (ao_ x) ?_
   refine pus_ 12 (some 32) (ao_ x) ?_
   exact norm_ (by first | (simp only [putAll, Act.put, z0_, z1_, z2_]; done) | (simp only [putAll, Act.put, z0_, z1_, z2_]; rfl)) (af (B) _ ⟨l, (Kd.R_below p.out lt_), (bk_ c.out), (bk_ b.out), (at_ HB.out)⟩)
  intro ar
  refine join_ (σ := Unit) 8 #[true, true, true, true, false, false, false, true, true, true, true, false, false, true, true, true, true, false, false, false] (fun s_ => [(30, .string u), (36, .string I)]) (fun s_ w' => (w'.cell? ⟨d, 0, none⟩ = some (.int .i64 ((rd_T68 a g).f0)) ∧ w'.cell? ⟨d, 1, none⟩ = some (.int .i64 ((rd_T68 a g).f1)) ∧ w'.cell? ⟨d, 2, none⟩ = some (.int .i64 ((rd_T68 a g).f2)) ∧ w'.cell? ⟨o, 0, none⟩ = some (.int .i64 m) ∧ w'.cell? ⟨o, 1, none⟩ = some (.slice (some s) a.length t)) ∧ (w'.heap[o]? = some (.cells #[.int .i64 m, .slice (some s) a.length t] 27 (0, 0))) ∧ (w'.heap[d]? = some (.cells #[.int .i64 ((rd_T68 a g).f0), .int .i64 ((rd_T68 a g).f1), .int .i64 ((rd_T68 a g).f2)] 68 (0, 0))) ∧ (Below w.heap.size w w')) ?_ ?_
  rotate_left
  rotate_left
  ·skip
   rintro _ aG ⟨O, D, E, G⟩
   have y := mk_ D
   have z := mk_ E
   have A := mk_ G
   clear c
   clear b
   clear HB
   clear D E G
   have c := y
   have b := z
   have HB := A
   clear y z A
   have l := O
   refine norm_ (a' := ?_) ?_ ?_
   rotate_left
   ·simp only [putAll, Act.put, z0_, z1_, z2_]
    rfl
   refine ons_ 4 (some 24) (oo_ x) (fun K hK => ?_)
   refine Kd.R_lit_step (Kd.int .u8) _ 5 ?hg (N := 24) ?hd (xs := ([(wrap64 (97 + ((rd_T68 a g).f0))) % 256] : List Int)) (inner := [.int .u8 ((wrap64 (97 + ((rd_T68 a g).f0))) % 256)]) (ok := fun _ => True) (okp := fun _ => True) ?hr ?hp (fun _ hk => hk) trivial (Below.refl _ _) (Nat.le_refl _) (by simp) ?_; (case hd => rfl); (case hg => rfl); (case hr => first | (go_simp; done) | (go_simp; rfl)); (case hp => exact (Reps.one (show Kd.M (Kd.int .u8) _ _ _ ((wrap64 (97 + ((rd_T68 a g).f0))) % 256) [.int .u8 ((wrap64 (97 + ((rd_T68 a g).f0))) % 256)] from rfl) (Reps.none _ _)))
   intro B aF ag hb au ab
   clear au ab
   (first | rw [← Y.out] at ag | (simp only [Int.reduceToNat] at ag; rw [← Y.out] at ag))
   have p := mk_ (Kd.R_lower ag (below_size (at_ HB.out)))
   replace c := mk_ (blk_at c.out hb)
   replace b := mk_ (blk_at b.out hb)
   replace HB := ht_ HB hb
   clear hb ag
   refine hK.out _ _ ⟨(blk_cell b.out 0).trans rfl, (blk_cell b.out 1).trans rfl, (blk_cell b.out 2).trans rfl, (blk_cell c.out 0).trans rfl, (blk_cell c.out 1).trans rfl⟩ (fun l => ?_)
   clear hK K
   refine nor_ (some 24) ?_
   exact norm_ (by first | (simp only [putAll, Act.put, z0_, z1_, z2_]; done) | (simp only [putAll, Act.put, z0_, z1_, z2_]; rfl)) (ad (B) _ ⟨l, (Kd.R_below p.out lt_), (bk_ c.out), (bk_ b.out), (at_ HB.out)⟩)
  intro ax
  refine join_ (σ := Value) 9 #[true, true, true, true, true, false, false, true, true, true, false, false, false, true, true, true, false, false, false, false] (fun s_ => [(24, s_)]) (fun s_ w' => (w'.cell? ⟨d, 0, none⟩ = some (.int .i64 ((rd_T68 a g).f0)) ∧ w'.cell? ⟨d, 1, none⟩ = some (.int .i64 ((rd_T68 a g).f1)) ∧ w'.cell? ⟨d, 2, none⟩ = some (.int .i64 ((rd_T68 a g).f2)) ∧ w'.cell? ⟨o, 0, none⟩ = some (.int .i64 m) ∧ w'.cell? ⟨o, 1, none⟩ = some (.slice (some s) a.length t)) ∧ (Kd.R (Kd.int .u8) 5 w' w.heap.size (fun _ => True) s_ q) ∧ (w'.heap[o]? = some (.cells #[.int .i64 m, .slice (some s) a.length t] 27 (0, 0))) ∧ (w'.heap[d]? = some (.cells #[.int .i64 ((rd_T68 a g).f0), .int .i64 ((rd_T68 a g).f1), .int .i64 ((rd_T68 a g).f2)] 68 (0, 0))) ∧ (Below w.heap.size w w')) ?_ ?_
  rotate_left
  rotate_left
  ·skip
   rintro B aG ⟨O, D, E, G, J⟩
   have y := mk_ D
   have z := mk_ E
   have A := mk_ G
   have L := mk_ J
   clear c
   clear b
   clear HB
   clear D E G J
   have p := y
   have c := z
   have b := A
   have HB := L
   clear y z A L
   have l := O
   refine norm_ (a' := ?_) ?_ ?_
   rotate_left
   ·simp only [putAll, Act.put, z0_, z1_, z2_]
    rfl
   refine two_ (i := 5) (j := 10) (Ni := some 25) (Nj := some 30) #[true, true, true, true, true, true, false, true, true, true, false, false, false, true, true, true, false, false, false, false] #[true, true, true, true, true, false, false, true, true, true, true, false, false, true, true, true, false, false, false, false] rfl rfl rfl rfl (two_of x.out (by kernel_rfl)) (by decide) (by decide) (fun K hK => ?_) (fun K hK => ?_)
   ·skip
    have aT := own_string (P := Tryd.prog) Tryd.underlying22 Tryd.underlying5 Tryd.underlying9 (Kd.own_of_R p.out)
    refine value_ (w1 := ?_) (v := ?_) (by rfl) rfl ?_ ?_
    rotate_left 2
    ·go_simp
     constructor
     ·rfl
     rfl
    clear aT
    refine hK.out _ _ ⟨(blk_cell b.out 0).trans rfl, (blk_cell b.out 1).trans rfl, (blk_cell b.out 2).trans rfl, (blk_cell c.out 0).trans rfl, (blk_cell c.out 1).trans rfl⟩ (fun l => ?_)
    clear hK K
    refine nor_ (some 25) ?_
    refine pus_ 6 (some 26) (ao_ x) ?_
    exact norm_ (by first | (simp only [putAll, Act.put, z0_, z1_, z2_]; done) | (simp only [putAll, Act.put, z0_, z1_, z2_]; rfl)) (aR (B) _ ⟨l, (Kd.R_below p.out lt_), (bk_ c.out), (bk_ b.out), (at_ HB.out)⟩)
   skip
   refine goes_ Tryd.func31 (by kernel_rfl) rfl #[.agg #[.int .i64 m, .slice (some s) a.length t], .int .i64 ((rd_T68 a g).f1)] (by rfl) rfl rfl gl_ ?_
   with_reducible refine (ih k (by omega) m _ _ a ((rd_T68 a g).f1) u _ ?side1 ?side2 ay.out).mono ?_
   (case side1 => exact Kd.C_below (Kd.C_below U.out HB.out) lt_)
   (case side2 => exact X.out)
   rintro e aF ⟨rfl, hb⟩
   refine ⟨_, rfl, ?_⟩
   replace p := mk_ (Kd.R_below (Kd.R_below p.out lt_) hb)
   replace c := mk_ (blk_at c.out hb)
   replace b := mk_ (blk_at b.out hb)
   replace HB := ht_ HB hb
   (try clear hb)
   (try clear hb2)
   (try clear hk)
   (try clear hi)
   refine hK.out _ _ ⟨(blk_cell b.out 0).trans rfl, (blk_cell b.out 1).trans rfl, (blk_cell b.out 2).trans rfl, (blk_cell c.out 0).trans rfl, (blk_cell c.out 1).trans rfl⟩ (fun l => ?_)
   clear hK K
   refine nor_ (some 30) ?_
   exact norm_ (by first | (simp only [putAll, Act.put, z0_, z1_, z2_]; done) | (simp only [putAll, Act.put, z0_, z1_, z2_]; rfl)) (ar (B) _ ⟨l, (Kd.R_below p.out lt_), (bk_ c.out), (bk_ b.out), (at_ HB.out)⟩)
  intro be
  refine join_ (σ := Unit) 9 #[true, true, true, true, false, false, false, true, true, true, true, false, false, true, true, true, false, false, false, false] (fun s_ => [(30, .string u)]) (fun s_ w' => (w'.cell? ⟨d, 0, none⟩ = some (.int .i64 ((rd_T68 a g).f0)) ∧ w'.cell? ⟨d, 1, none⟩ = some (.int .i64 ((rd_T68 a g).f1)) ∧ w'.cell? ⟨d, 2, none⟩ = some (.int .i64 ((rd_T68 a g).f2)) ∧ w'.cell? ⟨o, 0, none⟩ = some (.int .i64 m) ∧ w'.cell? ⟨o, 1, none⟩ = some (.slice (some s) a.length t)) ∧ (w'.heap[o]? = some (.cells #[.int .i64 m, .slice (some s) a.length t] 27 (0, 0))) ∧ (w'.heap[d]? = some (.cells #[.int .i64 ((rd_T68 a g).f0), .int .i64 ((rd_T68 a g).f1), .int .i64 ((rd_T68 a g).f2)] 68 (0, 0))) ∧ (Below w.heap.size w w')) ?_ ?_
  rotate_left
  ·intro aZ
   refine two_ (i := 4) (j := 10) (Ni := some 24) (Nj := some 30) #[true, true, true, true, true, false, false, true, true, true, false, false, false, true, true, true, false, false, false, false] #[true, true, true, true, false, false, false, true, true, true, true, false, false, true, true, true, false, false, false, false] rfl rfl rfl rfl (two_of x.out (by kernel_rfl)) (by decide) (by decide) (fun K hK => ?_) (fun K hK => ?_)
   rotate_left
   ·skip
    refine goes_ Tryd.func31 (by kernel_rfl) rfl #[.agg #[.int .i64 m, .slice (some s) a.length t], .int .i64 ((rd_T68 a g).f1)] (by rfl) rfl rfl gl_ ?_
    with_reducible refine (ih k (by omega) m _ _ a ((rd_T68 a g).f1) u _ ?side1 ?side2 ay.out).mono ?_
    (case side1 => exact Kd.C_below (Kd.C_below U.out HB.out) lt_)
    (case side2 => exact X.out)
    rintro e bf ⟨rfl, hb⟩
    refine ⟨_, rfl, ?_⟩
    replace c := mk_ (blk_at c.out hb)
    replace b := mk_ (blk_at b.out hb)
    replace HB := ht_ HB hb
    (try clear hb)
    (try clear hb2)
    (try clear hk)
    (try clear hi)
    refine hK.out _ _ ⟨(blk_cell b.out 0).trans rfl, (blk_cell b.out 1).trans rfl, (blk_cell b.out 2).trans rfl, (blk_cell c.out 0).trans rfl, (blk_cell c.out 1).trans rfl⟩ (fun l => ?_)
    clear hK K
    refine nor_ (some 30) ?_
    exact norm_ (by first | (simp only [putAll, Act.put, z0_, z1_, z2_]; done) | (simp only [putAll, Act.put, z0_, z1_, z2_]; rfl)) (aZ () _ ⟨l, (bk_ c.out), (bk_ b.out), (at_ HB.out)⟩)
   skip
   refine Kd.R_lit_step (Kd.int .u8) _ 5 ?hg (N := 24) ?hd (xs := ([(wrap64 (97 + ((rd_T68 a g).f0))) % 256] : List Int)) (inner := [.int .u8 ((wrap64 (97 + ((rd_T68 a g).f0))) % 256)]) (ok := fun _ => True) (okp := fun _ => True) ?hr ?hp (fun _ hk => hk) trivial (Below.refl _ _) (Nat.le_refl _) (by simp) ?_; (case hd => rfl); (case hg => rfl); (case hr => first | (go_simp; done) | (go_simp; rfl)); (case hp => exact (Reps.one (show Kd.M (Kd.int .u8) _ _ _ ((wrap64 (97 + ((rd_T68 a g).f0))) % 256) [.int .u8 ((wrap64 (97 + ((rd_T68 a g).f0))) % 256)] from rfl) (Reps.none _ _)))
   intro B bf ah hb au ab
   clear au ab
   (first | rw [← Y.out] at ah | (simp only [Int.reduceToNat] at ah; rw [← Y.out] at ah))
   have p := mk_ (Kd.R_lower ah (below_size (at_ HB.out)))
   replace c := mk_ (blk_at c.out hb)
   replace b := mk_ (blk_at b.out hb)
   replace HB := ht_ HB hb
   clear hb ah
   refine hK.out _ _ ⟨(blk_cell b.out 0).trans rfl, (blk_cell b.out 1).trans rfl, (blk_cell b.out 2).trans rfl, (blk_cell c.out 0).trans rfl, (blk_cell c.out 1).trans rfl⟩ (fun l => ?_)
   clear hK K
   refine nor_ (some 24) ?_
   exact norm_ (by first | (simp only [putAll, Act.put, z0_, z1_, z2_]; done) | (simp only [putAll, Act.put, z0_, z1_, z2_]; rfl)) (be (B) _ ⟨l, (Kd.R_below p.out lt_), (bk_ c.out), (bk_ b.out), (at_ HB.out)⟩)
  skip
  rintro _ bI ⟨O, D, E, G⟩
  have y := mk_ D
  have z := mk_ E
  have A := mk_ G
  clear c
  clear b
  clear HB
  clear D E G
  have c := y
  have b := z
  have HB := A
  clear y z A
  have l := O
  refine norm_ (a' := ?_) ?_ ?_
  rotate_left
  ·simp only [putAll, Act.put, z0_, z1_, z2_]
   rfl
  refine two_ (i := 4) (j := 16) (Ni := some 24) (Nj := some 36) #[true, true, true, true, true, false, false, true, true, true, true, false, false, true, true, true, false, false, false, false] #[true, true, true, true, false, false, false, true, true, true, true, false, false, true, true, true, true, false, false, false] rfl rfl rfl rfl (two_of x.out (by kernel_rfl)) (by decide) (by decide) (fun K hK => ?_) (fun K hK => ?_)
  rotate_left
  ·skip
   refine goes_ Tryd.func31 (by kernel_rfl) rfl #[.agg #[.int .i64 m, .slice (some s) a.length t], .int .i64 ((rd_T68 a g).f2)] (by rfl) rfl rfl gl_ ?_
   with_reducible refine (ih k (by omega) m _ _ a ((rd_T68 a g).f2) I _ ?side1 ?side2 aB.out).mono ?_
   (case side1 => exact Kd.C_below (Kd.C_below U.out HB.out) lt_)
   (case side2 => exact X.out)
   rintro e aG ⟨rfl, hb⟩
   refine ⟨_, rfl, ?_⟩
   replace c := mk_ (blk_at c.out hb)
   replace b := mk_ (blk_at b.out hb)
   replace HB := ht_ HB hb
   (try clear hb)
   (try clear hb2)
   (try clear hk)
   (try clear hi)
   refine hK.out _ _ ⟨(blk_cell b.out 0).trans rfl, (blk_cell b.out 1).trans rfl, (blk_cell b.out 2).trans rfl, (blk_cell c.out 0).trans rfl, (blk_cell c.out 1).trans rfl⟩ (fun l => ?_)
   clear hK K
   refine nor_ (some 36) ?_
   exact norm_ (by first | (simp only [putAll, Act.put, z0_, z1_, z2_]; done) | (simp only [putAll, Act.put, z0_, z1_, z2_]; rfl)) (ax () _ ⟨l, (bk_ c.out), (bk_ b.out), (at_ HB.out)⟩)
  skip
  refine Kd.R_lit_step (Kd.int .u8) _ 5 ?hg (N := 24) ?hd (xs := ([(wrap64 (97 + ((rd_T68 a g).f0))) % 256] : List Int)) (inner := [.int .u8 ((wrap64 (97 + ((rd_T68 a g).f0))) % 256)]) (ok := fun _ => True) (okp := fun _ => True) ?hr ?hp (fun _ hk => hk) trivial (Below.refl _ _) (Nat.le_refl _) (by simp) ?_; (case hd => rfl); (case hg => rfl); (case hr => first | (go_simp; done) | (go_simp; rfl)); (case hp => exact (Reps.one (show Kd.M (Kd.int .u8) _ _ _ ((wrap64 (97 + ((rd_T68 a g).f0))) % 256) [.int .u8 ((wrap64 (97 + ((rd_T68 a g).f0))) % 256)] from rfl) (Reps.none _ _)))
  intro B aG ai hb au ab
  clear au ab
  (first | rw [← Y.out] at ai | (simp only [Int.reduceToNat] at ai; rw [← Y.out] at ai))
  have p := mk_ (Kd.R_lower ai (below_size (at_ HB.out)))
  replace c := mk_ (blk_at c.out hb)
  replace b := mk_ (blk_at b.out hb)
  replace HB := ht_ HB hb
  clear hb ai
  refine hK.out _ _ ⟨(blk_cell b.out 0).trans rfl, (blk_cell b.out 1).trans rfl, (blk_cell b.out 2).trans rfl, (blk_cell c.out 0).trans rfl, (blk_cell c.out 1).trans rfl⟩ (fun l => ?_)
  clear hK K
  refine nor_ (some 24) ?_
  exact norm_ (by first | (simp only [putAll, Act.put, z0_, z1_, z2_]; done) | (simp only [putAll, Act.put, z0_, z1_, z2_]; rfl)) (ar (B) _ ⟨l, (Kd.R_below p.out lt_), (bk_ c.out), (bk_ b.out), (at_ HB.out)⟩)
 rintro B bc ⟨O, D, E, G, J⟩
 have y := mk_ D
 have z := mk_ E
 have A := mk_ G
 have L := mk_ J
 clear c
 clear b
 clear HB
 clear D E G J
 have p := y
 have c := z
 have b := A
 have HB := L
 clear y z A L
 have l := O
 refine norm_ (a' := ?_) ?_ ?_
 rotate_left
 ·simp only [putAll, Act.put, z0_, z1_, z2_]
  rfl
 refine pus_ 17 (some 37) (ao_ x) ?_
 refine pus_ 18 (some 38) (ao_ x) ?_
 refine pus_ 19 (some 4) (ao_ x) ?_
 refine done_ (done_of x.out (by kernel_rfl)) ?_
 try go_wp2
 go_ret
 exact ⟨er_, at_ HB.out⟩
end Go.Proofs.YtcaogllnbpmcgaaDoor.P

/- Go's functions come to just the answers of the Lean functions told here. -/
import Derived.Test.YtcaogllnbpmcgaaDoorPx24
namespace Go.Proofs.YtcaogllnbpmcgaaDoor.P
open Go.RowKit Go.Proofs.YtcaogllnbpmcgaaDoorW.PrintWords Go.Proofs.YtcaogllnbpmcgaaDoorW.PrintLast Go.Proofs.YtcaogllnbpmcgaaDoorW.PrintMore
attribute [local go_sem] max2_int min2_int max_two min_two max_three min_three max_four min_four
set_option linter.unusedVariables false
set_option linter.unusedSimpArgs false

/-! ### spec_l1Number: function 62 -/
def spec_l1Number.f : Nat → Int → Option (ByteArray)
 | 0, _ => none
 | k + 1, a0 => if a0 < 10 then (some (strOfNums (([(wrap64 (48 + (mx a0 0))) % 256] : List Int)))) else ((spec_l1Number.f k (wrap64 (Int.tdiv a0 10))).bind fun t316 => ((some (([(wrap64 (48 + (Int.tmod a0 10))) % 256] : List Int) : List Int)).bind fun y317 => (if t316.size + (strOfNums y317).size ≤ 9223372036854775807 then (some (t316 ++ (strOfNums y317))) else (none))))
def spec_l1Number.T3 : Bool × List (List Nat × List Nat) := (true, [([], []), ([0], [0]), ([1], [1]), ([], []), ([3], [3]), ([4], [4]), ([5], [5]), ([6], [6]), ([7], [7]), ([2, 8], [2, 8]), ([9, 2, 0, 1, 2, 3, 4, 5, 6, 7, 8, 9], [9])])
def spec_l1Number.B3 : List Nat := [0, 1, 3, 0, 8, 24, 56, 120, 248, 511, 1023]
theorem spec_l1Number.tab3 : rtab .any (opsOf Tryd.f62 3) = spec_l1Number.T3 := by kernel_rfl
theorem spec_l1Number.bits3 : waitsOk spec_l1Number.T3.2 spec_l1Number.B3 = true := by kernel_rfl
set_option maxHeartbeats 8000000 in
set_option maxRecDepth 100000 in
theorem spec_l1Number.calls (k : Nat) : ∀ (a0 : Int) (r : ByteArray) (w : World) (h : spec_l1Number.f k a0 = some r),
  Calls Tryd.prog 62 #[.int .i64 a0] w fun e w' => e = .returned (.string r) ∧ Below w.heap.size w w' := by
 induction k using Nat.strongRecOn with
 | _ k ih =>
 intro a0 r w h
 cases k with
 | zero => exact absurd h (by simp [spec_l1Number.f])
 | succ k =>
 simp only [spec_l1Number.f] at h
 have HB := mk_ (Below.refl w.heap.size w)
 have H : (if a0 < 10 then (some (strOfNums (([(wrap64 (48 + (mx a0 0))) % 256] : List Int)))) else ((spec_l1Number.f k (wrap64 (Int.tdiv a0 10))).bind fun t316 => ((some (([(wrap64 (48 + (Int.tmod a0 10))) % 256] : List Int) : List Int)).bind fun y317 => (if t316.size + (strOfNums y317).size ≤ 9223372036854775807 then (some (t316 ++ (strOfNums y317))) else (none))))) = some r := h
 clear h
 by_cases c2 : a0 < 10
 ·rw [if_pos c2] at H
  have c2b0 : decide (a0 < 10) = true := decide_eq_true c2
  clear c2
  obtain ⟨ji3, hji3⟩ : ∃ j_ : Int, (mx a0 0) = j_ := ⟨_, rfl⟩
  first | rw [hji3] at H | simp only [hji3] at H
  (try (have hji3l : 0 ≤ ji3 := by (rw [← hji3]; unfold mx; (repeat' split) <;> omega)))
  (try (have hji3m : 0 ≤ ji3 := by omega))
  have hji3_ : (if a0 < 0 then 0 else a0) = ji3 := hji3
  obtain ⟨y313, hy313⟩ : ∃ y_ : List Int, y_ = (([(wrap64 (48 + (ji3))) % 256] : List Int)) := ⟨_, rfl⟩
  first | (replace H := bn_ hy313 H; try dsimp only at H) | rw [← hy313] at H
  have Ny313 := mk_ hy313
  clear hy313
  obtain rfl := Option.some.inj H
  go_enter Tryd.func62, Tryd.ntmps62
  go_wp2_with (first | ((with_reducible refine gate_dst (N := 9) rfl ?_); refine Kd.R_lit (Kd.int .u8) _ 5 ?hg (N := 9) ?hd (xs := ([(wrap64 (48 + (ji3))) % 256] : List Int)) (inner := [.int .u8 ((wrap64 (48 + (ji3))) % 256)]) (ok := fun _ => True) (okp := fun _ => True) ?hr ?hp (fun _ hk => hk) trivial (Below.refl _ _) (Nat.le_refl _) (by simp) ?_; (case hd => rfl); (case hg => rfl); (case hr => first | (go_simp; done) | (go_simp; rfl)); (case hp => exact (Reps.one (show Kd.M (Kd.int .u8) _ _ _ ((wrap64 (48 + (ji3))) % 256) [.int .u8 ((wrap64 (48 + (ji3))) % 256)] from rfl) (Reps.none _ _))); intro v314 w4 ho5 hb hg_ hnew_; clear hg_ hnew_; (first | rw [← Ny313.out] at ho5 | (simp only [Int.reduceToNat] at ho5; rw [← Ny313.out] at ho5)); have HO315 := mk_ (Kd.R_lower ho5 (below_size (below_at HB.out))); replace HB := mk_ (below_step (below_at HB.out) hb); clear hb ho5; have hcv6 := own_string (P := Tryd.prog) Tryd.underlying22 Tryd.underlying5 Tryd.underlying9 (Kd.own_of_R HO315.out)))
  go_ret
  exact ⟨by first | rfl | (simp [errW_none, errW_some] <;> rfl) | (simp only [← hji3]; first | rfl | (simp [errW_none, errW_some] <;> rfl)) | (simp [*, errW_none, errW_some] <;> rfl), below_at HB.out⟩
 rw [if_neg c2] at H
 have c2b0 : decide (a0 < 10) = false := decide_eq_false c2
 clear c2
 replace H := Option.bind_eq_some_iff.mp H
 obtain ⟨t316, A70, H⟩ := H
 try dsimp only at H
 have A7 := mk_ A70
 clear A70
 obtain ⟨y317, hy317⟩ : ∃ y_ : List Int, y_ = (([(wrap64 (48 + (Int.tmod a0 10))) % 256] : List Int)) := ⟨_, rfl⟩
 first | (replace H := bn_ hy317 H; try dsimp only at H) | rw [← hy317] at H
 have Ny317 := mk_ hy317
 clear hy317
 by_cases c8 : t316.size + (strOfNums y317).size ≤ 9223372036854775807
 rotate_left
 ·rw [if_neg c8] at H
  exact absurd H (by simp)
 rw [if_pos c8] at H
 have c8b0 := eq_true c8
 have c8b1 : decide (t316.size + (strOfNums y317).size ≤ 9223372036854775807) = true := decide_eq_true c8
 try have c8b2 : (9223372036854775807 < t316.size + (strOfNums y317).size) = False := eq_false (Nat.not_lt.2 c8)
 obtain rfl := Option.some.inj H
 go_enter Tryd.func62, Tryd.ntmps62
 try go_wp2
 replace HB := mk_ (below_drew1 HB.out)
 refine start_ (n := 11) (S := fun w' => True) (ds := []) #[false, false, false, false, false, false, false, false, false, false, false] (by kernel_rfl) rfl rfl trivial (fun hHeld => ?_); refine with_tabW spec_l1Number.tab3 spec_l1Number.bits3 (fun HT_ HW_ => ?_)
 generalize w.drew = w9 at HB hHeld ⊢
 refine pus_ 0 (some 11) (ao_ HT_) ?_
 refine pus_ 1 (some 12) (ao_ HT_) ?_
 refine pus_ 3 (some 14) (ao_ HT_) ?_
 refine pus_ 4 (some 15) (ao_ HT_) ?_
 refine pus_ 5 (some 16) (ao_ HT_) ?_
 refine pus_ 6 (some 17) (ao_ HT_) ?_
 refine join_ (σ := Value) 2 #[true, true, true, true, true, true, true, true, true, false, false] (fun s_ => [(13, .string t316), (18, s_), (19, .string (strOfNums y317))]) (fun s_ w' => (Kd.R (Kd.int .u8) 5 w' w.heap.size (fun _ => True) s_ y317) ∧ (Below w.heap.size w w')) ?_ ?_
 rotate_left
 ·intro hCont
  refine two_ (i := 2) (j := 7) (Ni := some 13) (Nj := some 18) #[true, true, true, true, true, true, true, false, false, false, false] #[true, true, false, true, true, true, true, true, false, false, false] rfl rfl rfl rfl (two_of HT_.out (by kernel_rfl)) (by decide) (by decide) (fun K hK => ?_) (fun K hK => ?_)
  ·skip
   refine goes_ Tryd.func62 (by kernel_rfl) rfl #[.int .i64 (wrap64 (Int.tdiv a0 10))] (by rfl) rfl rfl gl_ ?_
   with_reducible refine (ih k (by omega) (wrap64 (Int.tdiv a0 10)) t316 _ A7.out).mono ?_
   rintro e w10 ⟨rfl, hb⟩
   refine ⟨_, rfl, ?_⟩
   replace HB := mk_ (below_step (below_at HB.out) hb)
   (try clear hb)
   (try clear hb2)
   (try clear hk)
   (try clear hi)
   refine hK.out _ _ trivial (fun hHeld => ?_)
   clear hK K
   refine nor_ (some 13) ?_
   refine ons_ 7 (some 18) (oo_ HT_) (fun K hK => ?_)
   refine Kd.R_lit_step (Kd.int .u8) _ 5 ?hg (N := 18) ?hd (xs := ([(wrap64 (48 + (Int.tmod a0 10))) % 256] : List Int)) (inner := [.int .u8 ((wrap64 (48 + (Int.tmod a0 10))) % 256)]) (ok := fun _ => True) (okp := fun _ => True) ?hr ?hp (fun _ hk => hk) trivial (Below.refl _ _) (Nat.le_refl _) (by simp) ?_; (case hd => rfl); (case hg => rfl); (case hr => first | (go_simp; done) | (go_simp; rfl)); (case hp => exact (Reps.one (show Kd.M (Kd.int .u8) _ _ _ ((wrap64 (48 + (Int.tmod a0 10))) % 256) [.int .u8 ((wrap64 (48 + (Int.tmod a0 10))) % 256)] from rfl) (Reps.none _ _)))
   intro v318 w11 ho12 hb hg_ hnew_
   clear hg_ hnew_
   (first | rw [← Ny317.out] at ho12 | (simp only [Int.reduceToNat] at ho12; rw [← Ny317.out] at ho12))
   have HO319 := mk_ (Kd.R_lower ho12 (below_size (below_at HB.out)))
   replace HB := mk_ (below_step (below_at HB.out) hb)
   clear hb ho12
   refine hK.out _ _ trivial (fun hHeld => ?_)
   clear hK K
   refine nor_ (some 18) ?_
   refine ons_ 8 (some 19) (oo_ HT_) (fun K hK => ?_)
   have hcv13 := own_string (P := Tryd.prog) Tryd.underlying22 Tryd.underlying5 Tryd.underlying9 (Kd.own_of_R HO319.out)
   refine value_ (w1 := ?_) (v := ?_) (by rfl) rfl ?_ ?_
   rotate_left 2
   ·go_simp
    constructor
    ·rfl
    rfl
   clear hcv13
   refine hK.out _ _ trivial (fun hHeld => ?_)
   clear hK K
   refine nor_ (some 19) ?_
   exact norm_ (by simp only [putAll, Act.put, z0_, z1_, z2_]) (hCont (v318) _ ⟨(Kd.R_below HO319.out lt_), (below_at HB.out)⟩)
  skip
  refine Kd.R_lit_step (Kd.int .u8) _ 5 ?hg (N := 18) ?hd (xs := ([(wrap64 (48 + (Int.tmod a0 10))) % 256] : List Int)) (inner := [.int .u8 ((wrap64 (48 + (Int.tmod a0 10))) % 256)]) (ok := fun _ => True) (okp := fun _ => True) ?hr ?hp (fun _ hk => hk) trivial (Below.refl _ _) (Nat.le_refl _) (by simp) ?_; (case hd => rfl); (case hg => rfl); (case hr => first | (go_simp; done) | (go_simp; rfl)); (case hp => exact (Reps.one (show Kd.M (Kd.int .u8) _ _ _ ((wrap64 (48 + (Int.tmod a0 10))) % 256) [.int .u8 ((wrap64 (48 + (Int.tmod a0 10))) % 256)] from rfl) (Reps.none _ _)))
  intro v318 w10 ho11 hb hg_ hnew_
  clear hg_ hnew_
  (first | rw [← Ny317.out] at ho11 | (simp only [Int.reduceToNat] at ho11; rw [← Ny317.out] at ho11))
  have HO319 := mk_ (Kd.R_lower ho11 (below_size (below_at HB.out)))
  replace HB := mk_ (below_step (below_at HB.out) hb)
  clear hb ho11
  refine hK.out _ _ trivial (fun hHeld => ?_)
  clear hK K
  refine nor_ (some 18) ?_
  refine two_ (i := 2) (j := 8) (Ni := some 13) (Nj := some 19) #[true, true, true, true, true, true, true, true, false, false, false] #[true, true, false, true, true, true, true, true, true, false, false] rfl rfl rfl rfl (two_of HT_.out (by kernel_rfl)) (by decide) (by decide) (fun K hK => ?_) (fun K hK => ?_)
  ·skip
   refine goes_ Tryd.func62 (by kernel_rfl) rfl #[.int .i64 (wrap64 (Int.tdiv a0 10))] (by rfl) rfl rfl gl_ ?_
   with_reducible refine (ih k (by omega) (wrap64 (Int.tdiv a0 10)) t316 _ A7.out).mono ?_
   rintro e w12 ⟨rfl, hb⟩
   refine ⟨_, rfl, ?_⟩
   replace HO319 := mk_ (Kd.R_below (Kd.R_below HO319.out lt_) hb)
   replace HB := mk_ (below_step (below_at HB.out) hb)
   (try clear hb)
   (try clear hb2)
   (try clear hk)
   (try clear hi)
   refine hK.out _ _ trivial (fun hHeld => ?_)
   clear hK K
   refine nor_ (some 13) ?_
   refine ons_ 8 (some 19) (oo_ HT_) (fun K hK => ?_)
   have hcv13 := own_string (P := Tryd.prog) Tryd.underlying22 Tryd.underlying5 Tryd.underlying9 (Kd.own_of_R HO319.out)
   refine value_ (w1 := ?_) (v := ?_) (by rfl) rfl ?_ ?_
   rotate_left 2
   ·go_simp
    constructor
    ·rfl
    rfl
   clear hcv13
   refine hK.out _ _ trivial (fun hHeld => ?_)
   clear hK K
   refine nor_ (some 19) ?_
   exact norm_ (by simp only [putAll, Act.put, z0_, z1_, z2_]) (hCont (v318) _ ⟨(Kd.R_below HO319.out lt_), (below_at HB.out)⟩)
  skip
  have hcv12 := own_string (P := Tryd.prog) Tryd.underlying22 Tryd.underlying5 Tryd.underlying9 (Kd.own_of_R HO319.out)
  refine value_ (w1 := ?_) (v := ?_) (by rfl) rfl ?_ ?_
  rotate_left 2
  ·go_simp
   constructor
   ·rfl
   rfl
  clear hcv12
  refine hK.out _ _ trivial (fun hHeld => ?_)
  clear hK K
  refine nor_ (some 19) ?_
  refine ons_ 2 (some 13) (oo_ HT_) (fun K hK => ?_)
  refine goes_ Tryd.func62 (by kernel_rfl) rfl #[.int .i64 (wrap64 (Int.tdiv a0 10))] (by rfl) rfl rfl gl_ ?_
  with_reducible refine (ih k (by omega) (wrap64 (Int.tdiv a0 10)) t316 _ A7.out).mono ?_
  rintro e w13 ⟨rfl, hb⟩
  refine ⟨_, rfl, ?_⟩
  replace HO319 := mk_ (Kd.R_below (Kd.R_below HO319.out lt_) hb)
  replace HB := mk_ (below_step (below_at HB.out) hb)
  (try clear hb)
  (try clear hb2)
  (try clear hk)
  (try clear hi)
  refine hK.out _ _ trivial (fun hHeld => ?_)
  clear hK K
  refine nor_ (some 13) ?_
  exact norm_ (by simp only [putAll, Act.put, z0_, z1_, z2_]) (hCont (v318) _ ⟨(Kd.R_below HO319.out lt_), (below_at HB.out)⟩)
 rintro v318 w14 ⟨h0_, h1_⟩
 have n0_ : Aside0 (Kd.R (Kd.int .u8) 5 w14 w.heap.size (fun _ => True) v318 y317) := ⟨h0_⟩
 have n1_ : Aside0 (Below w.heap.size w w14) := ⟨h1_⟩
 clear HB
 clear h0_ h1_
 have HO319 := n0_
 have HB := n1_
 clear n0_ n1_
 have hHeld := trivial
 refine norm_ (a' := ?_) ?_ ?_
 rotate_left
 ·simp only [putAll, Act.put, z0_, z1_, z2_]
  rfl
 refine pus_ 9 (some 20) (ao_ HT_) ?_
 refine pus_ 10 (some 2) (ao_ HT_) ?_
 refine done_ (done_of HT_.out (by kernel_rfl)) ?_
 try go_wp2
 go_ret
 exact ⟨er_, below_at HB.out⟩

/-! ### spec_l11Text: function 33 -/
def spec_l11Text.f : Nat → Int → List (S68) → Int → Option (ByteArray)
 | 0, _, _, _ => none
 | k + 1, a0_0, l0_1, a1 => if a1 = (-1) then (some (⟨#[42]⟩ : ByteArray)) else (if a1 < 0 then ((spec_l1Number.f k (wrap64 ((-2) - a1))).bind fun t321 => (some t321)) else (if 0 ≤ a1 then (if a1 < (l0_1.length : Int) then (if 0 ≤ ((rd_T68 l0_1 a1).f0) then (if ((rd_T68 l0_1 a1).f0) ≤ (wrap64 (((rd_T68 l0_1 a1).f0) + 1)) then (if (wrap64 (((rd_T68 l0_1 a1).f0) + 1)) ≤ 4 then (if ((⟨#[97, 98, 99, 100]⟩ : ByteArray).extract (((rd_T68 l0_1 a1).f0) : Int).toNat ((wrap64 (((rd_T68 l0_1 a1).f0) + 1)) : Int).toNat).size + 1 ≤ 9223372036854775807 then ((spec_l11Text.f k a0_0 l0_1 ((rd_T68 l0_1 a1).f1)).bind fun t324 => (if (((⟨#[97, 98, 99, 100]⟩ : ByteArray).extract (((rd_T68 l0_1 a1).f0) : Int).toNat ((wrap64 (((rd_T68 l0_1 a1).f0) + 1)) : Int).toNat) ++ (⟨#[40]⟩ : ByteArray)).size + t324.size ≤ 9223372036854775807 then (if ((((⟨#[97, 98, 99, 100]⟩ : ByteArray).extract (((rd_T68 l0_1 a1).f0) : Int).toNat ((wrap64 (((rd_T68 l0_1 a1).f0) + 1)) : Int).toNat) ++ (⟨#[40]⟩ : ByteArray)) ++ t324).size + 1 ≤ 9223372036854775807 then ((spec_l11Text.f k a0_0 l0_1 ((rd_T68 l0_1 a1).f2)).bind fun t325 => (if (((((⟨#[97, 98, 99, 100]⟩ : ByteArray).extract (((rd_T68 l0_1 a1).f0) : Int).toNat ((wrap64 (((rd_T68 l0_1 a1).f0) + 1)) : Int).toNat) ++ (⟨#[40]⟩ : ByteArray)) ++ t324) ++ (⟨#[44]⟩ : ByteArray)).size + t325.size ≤ 9223372036854775807 then (if ((((((⟨#[97, 98, 99, 100]⟩ : ByteArray).extract (((rd_T68 l0_1 a1).f0) : Int).toNat ((wrap64 (((rd_T68 l0_1 a1).f0) + 1)) : Int).toNat) ++ (⟨#[40]⟩ : ByteArray)) ++ t324) ++ (⟨#[44]⟩ : ByteArray)) ++ t325).size + 1 ≤ 9223372036854775807 then (some (((((((⟨#[97, 98, 99, 100]⟩ : ByteArray).extract (((rd_T68 l0_1 a1).f0) : Int).toNat ((wrap64 (((rd_T68 l0_1 a1).f0) + 1)) : Int).toNat) ++ (⟨#[40]⟩ : ByteArray)) ++ t324) ++ (⟨#[44]⟩ : ByteArray)) ++ t325) ++ (⟨#[41]⟩ : ByteArray))) else (none)) else (none))) else (none)) else (none))) else (none)) else (none)) else (none)) else (none)) else (none)) else (none)))
def spec_l11Text.T6 : Bool × List (List Nat × List Nat) := (true, [([], []), ([0], [0]), ([], []), ([2], [2]), ([3], [3]), ([1, 4], [1, 4]), ([5], [5]), ([], []), ([], []), ([8], [8]), ([7, 9], [7, 9]), ([6, 10], [6, 10]), ([11], [11]), ([], []), ([], []), ([14], [14]), ([13, 15, 10], [13, 15]), ([12, 16], [12, 16]), ([17], [17]), ([18, 16, 0, 1, 2, 3, 4, 5, 6, 7, 8, 9, 10, 11, 12, 13, 14, 15, 16, 17, 18], [18])])
def spec_l11Text.B6 : List Nat := [0, 1, 0, 4, 12, 31, 63, 0, 0, 256, 896, 2047, 4095, 0, 0, 16384, 59264, 131071, 262143, 524287]
theorem spec_l11Text.tab6 : rtab .any (opsOf Tryd.f33 6) = spec_l11Text.T6 := by kernel_rfl
theorem spec_l11Text.bits6 : waitsOk spec_l11Text.T6.2 spec_l11Text.B6 = true := by kernel_rfl
set_option maxHeartbeats 8000000 in
set_option maxRecDepth 100000 in
theorem spec_l11Text.calls (k : Nat) : ∀ (a0_0 : Int) (A0_1 : Option Addr) (c0_1 : Nat) (l0_1 : List (S68)) (a1 : Int) (r : ByteArray) (w : World) (hr0_1 : Kd.C k68 w A0_1 l0_1.length l0_1) (hc0_1 : l0_1.length ≤ c0_1) (h : spec_l11Text.f k a0_0 l0_1 a1 = some r),
  Calls Tryd.prog 33 #[.agg #[.int .i64 a0_0, .slice A0_1 l0_1.length c0_1], .int .i64 a1] w fun e w' => e = .returned (.string r) ∧ Below w.heap.size w w' := by
 induction k using Nat.strongRecOn with
 | _ k ih =>
 intro a0_0 A0_1 c0_1 l0_1 a1 r w hr0_1 hc0_1 h
 cases k with
 | zero => exact absurd h (by simp [spec_l11Text.f])
 | succ k =>
 simp only [spec_l11Text.f] at h
 have hu27 := Tryd.underlying27
 have hu68 := Tryd.underlying68
 have HR0_1 := mk_ hr0_1
 have HC0_1 := mk_ hc0_1
 clear hr0_1 hc0_1
 have HB := mk_ (Below.refl w.heap.size w)
 have H : (if a1 = (-1) then (some (⟨#[42]⟩ : ByteArray)) else (if a1 < 0 then ((spec_l1Number.f k (wrap64 ((-2) - a1))).bind fun t321 => (some t321)) else (if 0 ≤ a1 then (if a1 < (l0_1.length : Int) then (if 0 ≤ ((rd_T68 l0_1 a1).f0) then (if ((rd_T68 l0_1 a1).f0) ≤ (wrap64 (((rd_T68 l0_1 a1).f0) + 1)) then (if (wrap64 (((rd_T68 l0_1 a1).f0) + 1)) ≤ 4 then (if ((⟨#[97, 98, 99, 100]⟩ : ByteArray).extract (((rd_T68 l0_1 a1).f0) : Int).toNat ((wrap64 (((rd_T68 l0_1 a1).f0) + 1)) : Int).toNat).size + 1 ≤ 9223372036854775807 then ((spec_l11Text.f k a0_0 l0_1 ((rd_T68 l0_1 a1).f1)).bind fun t324 => (if (((⟨#[97, 98, 99, 100]⟩ : ByteArray).extract (((rd_T68 l0_1 a1).f0) : Int).toNat ((wrap64 (((rd_T68 l0_1 a1).f0) + 1)) : Int).toNat) ++ (⟨#[40]⟩ : ByteArray)).size + t324.size ≤ 9223372036854775807 then (if ((((⟨#[97, 98, 99, 100]⟩ : ByteArray).extract (((rd_T68 l0_1 a1).f0) : Int).toNat ((wrap64 (((rd_T68 l0_1 a1).f0) + 1)) : Int).toNat) ++ (⟨#[40]⟩ : ByteArray)) ++ t324).size + 1 ≤ 9223372036854775807 then ((spec_l11Text.f k a0_0 l0_1 ((rd_T68 l0_1 a1).f2)).bind fun t325 => (if (((((⟨#[97, 98, 99, 100]⟩ : ByteArray).extract (((rd_T68 l0_1 a1).f0) : Int).toNat ((wrap64 (((rd_T68 l0_1 a1).f0) + 1)) : Int).toNat) ++ (⟨#[40]⟩ : ByteArray)) ++ t324) ++ (⟨#[44]⟩ : ByteArray)).size + t325.size ≤ 9223372036854775807 then (if ((((((⟨#[97, 98, 99, 100]⟩ : ByteArray).extract (((rd_T68 l0_1 a1).f0) : Int).toNat ((wrap64 (((rd_T68 l0_1 a1).f0) + 1)) : Int).toNat) ++ (⟨#[40]⟩ : ByteArray)) ++ t324) ++ (⟨#[44]⟩ : ByteArray)) ++ t325).size + 1 ≤ 9223372036854775807 then (some (((((((⟨#[97, 98, 99, 100]⟩ : ByteArray).extract (((rd_T68 l0_1 a1).f0) : Int).toNat ((wrap64 (((rd_T68 l0_1 a1).f0) + 1)) : Int).toNat) ++ (⟨#[40]⟩ : ByteArray)) ++ t324) ++ (⟨#[44]⟩ : ByteArray)) ++ t325) ++ (⟨#[41]⟩ : ByteArray))) else (none)) else (none))) else (none)) else (none))) else (none)) else (none)) else (none)) else (none)) else (none)) else (none)))) = some r := h
 clear h
 by_cases c3 : a1 = (-1)
 ·rw [if_pos c3] at H
  have c3b0 : (a1 == (-1)) = true := beq_iff_eq.mpr c3
  have c3b1 : (a1 != (-1)) = false := bne_eq_false_iff_eq.mpr c3
  clear c3
  obtain rfl := Option.some.inj H
  go_enter Tryd.func33, Tryd.ntmps33
  go_wp2_with (first | ((with_reducible refine gate_dst (N := 2) rfl ?_); refine bx_ 2 #[.int .i64 a0_0, .slice A0_1 l0_1.length c0_1] 27 ?_; intro gb320 hg w4 hbox hb; have GW320 := mk_ (gb_ hg HB.out); have GE320 := mk_ (gb_ hg HB.out); replace HB := mk_ (below_step (below_at HB.out) hb); clear hb hbox hg))
  go_ret
  exact ⟨er_, at_ HB.out⟩
 rw [if_neg c3] at H
 have c3b0 : (a1 == (-1)) = false := beq_eq_false_iff_ne.mpr c3
 have c3b1 : (a1 != (-1)) = true := bne_iff_ne.mpr c3
 by_cases c5 : a1 < 0
 ·rw [if_pos c5] at H
  have c5b0 : decide (a1 < 0) = true := decide_eq_true c5
  clear c5
  replace H := Option.bind_eq_some_iff.mp H
  obtain ⟨t321, A60, H⟩ := H
  replace H : (some t321) = some r := H
  have A6 := mk_ A60
  clear A60
  obtain rfl := Option.some.inj H
  go_enter Tryd.func33, Tryd.ntmps33
  go_wp2_with (first | ((with_reducible refine gate_dst (N := 2) rfl ?_); refine bx_ 2 #[.int .i64 a0_0, .slice A0_1 l0_1.length c0_1] 27 ?_; intro gb320 hg w7 hbox hb; have GW320 := mk_ (gb_ hg HB.out); have GE320 := mk_ (gb_ hg HB.out); replace HB := mk_ (below_step (below_at HB.out) hb); clear hb hbox hg) | ((with_reducible refine gate_callee (f := 62) rfl ?_); refine goesL_ (some 12) rfl rfl Tryd.func62 (by kernel_rfl) rfl #[.int .i64 (wrap64 ((-2) - a1))] rfl gl_ ?_; (with_reducible refine (spec_l1Number.calls k (wrap64 ((-2) - a1)) t321 _ A6.out).mono ?_); rintro e w8 ⟨rfl, hb⟩; refine ⟨_, rfl, ?_⟩; replace HB := mk_ (below_step (at_ HB.out) hb); (try clear BK320); (try clear hb); (try clear hb2); (try clear hk); (try clear hi)))
  go_ret
  exact ⟨er_, at_ HB.out⟩
 rw [if_neg c5] at H
 have c5b0 : decide (a1 < 0) = false := decide_eq_false c5
 clear c5
 by_cases c9 : 0 ≤ a1
 rotate_left
 ·rw [if_neg c9] at H
  exact absurd H (by simp)
 rw [if_pos c9] at H
 have c9b0 : decide (0 ≤ a1) = true := decide_eq_true c9
 clear c9
 by_cases c10 : a1 < (l0_1.length : Int)
 rotate_left
 ·rw [if_neg c10] at H
  exact absurd H (by simp)
 rw [if_pos c10] at H
 have c10b0 : decide (a1 < (l0_1.length : Int)) = true := decide_eq_true c10
 clear c10
 by_cases c11 : 0 ≤ ((rd_T68 l0_1 a1).f0)
 rotate_left
 ·rw [if_neg c11] at H
  exact absurd H (by simp)
 rw [if_pos c11] at H
 have c11b0 := eq_true c11
 have c11b1 : decide (0 ≤ ((rd_T68 l0_1 a1).f0)) = true := decide_eq_true c11
 clear c11
 by_cases c12 : ((rd_T68 l0_1 a1).f0) ≤ (wrap64 (((rd_T68 l0_1 a1).f0) + 1))
 rotate_left
 ·rw [if_neg c12] at H
  exact absurd H (by simp)
 rw [if_pos c12] at H
 have c12b0 := eq_true c12
 have c12b1 : decide (((rd_T68 l0_1 a1).f0) ≤ (wrap64 (((rd_T68 l0_1 a1).f0) + 1))) = true := decide_eq_true c12
 by_cases c13 : (wrap64 (((rd_T68 l0_1 a1).f0) + 1)) ≤ 4
 rotate_left
 ·rw [if_neg c13] at H
  exact absurd H (by simp)
 rw [if_pos c13] at H
 have c13b0 := eq_true c13
 have c13b1 : decide ((wrap64 (((rd_T68 l0_1 a1).f0) + 1)) ≤ 4) = true := decide_eq_true c13
 by_cases c14 : ((⟨#[97, 98, 99, 100]⟩ : ByteArray).extract (((rd_T68 l0_1 a1).f0) : Int).toNat ((wrap64 (((rd_T68 l0_1 a1).f0) + 1)) : Int).toNat).size + 1 ≤ 9223372036854775807
 rotate_left
 ·rw [if_neg c14] at H
  exact absurd H (by simp)
 rw [if_pos c14] at H
 have c14b0 := eq_true c14
 have c14b1 : decide (((⟨#[97, 98, 99, 100]⟩ : ByteArray).extract (((rd_T68 l0_1 a1).f0) : Int).toNat ((wrap64 (((rd_T68 l0_1 a1).f0) + 1)) : Int).toNat).size + 1 ≤ 9223372036854775807) = true := decide_eq_true c14
 try have c14b2 : (9223372036854775807 < ((⟨#[97, 98, 99, 100]⟩ : ByteArray).extract (((rd_T68 l0_1 a1).f0) : Int).toNat ((wrap64 (((rd_T68 l0_1 a1).f0) + 1)) : Int).toNat).size + 1) = False := eq_false (Nat.not_lt.2 c14)
 try (have c14b3 := c14b2; simp only [ByteArray.size_append', show (⟨#[97, 98, 99, 100]⟩ : ByteArray).size = 4 from rfl, ByteArray.size_extract, Nat.min_eq_left (show ((wrap64 (((rd_T68 l0_1 a1).f0) + 1)) : Int).toNat ≤ 4 by omega)] at c14b3)
 replace H := Option.bind_eq_some_iff.mp H
 obtain ⟨t324, A150, H⟩ := H
 try dsimp only at H
 have A15 := mk_ A150
 clear A150
 by_cases c16 : (((⟨#[97, 98, 99, 100]⟩ : ByteArray).extract (((rd_T68 l0_1 a1).f0) : Int).toNat ((wrap64 (((rd_T68 l0_1 a1).f0) + 1)) : Int).toNat) ++ (⟨#[40]⟩ : ByteArray)).size + t324.size ≤ 9223372036854775807
 rotate_left
 ·rw [if_neg c16] at H
  exact absurd H (by simp)
 rw [if_pos c16] at H
 have c16b0 := eq_true c16
 have c16b1 : decide ((((⟨#[97, 98, 99, 100]⟩ : ByteArray).extract (((rd_T68 l0_1 a1).f0) : Int).toNat ((wrap64 (((rd_T68 l0_1 a1).f0) + 1)) : Int).toNat) ++ (⟨#[40]⟩ : ByteArray)).size + t324.size ≤ 9223372036854775807) = true := decide_eq_true c16
 try have c16b2 : (9223372036854775807 < (((⟨#[97, 98, 99, 100]⟩ : ByteArray).extract (((rd_T68 l0_1 a1).f0) : Int).toNat ((wrap64 (((rd_T68 l0_1 a1).f0) + 1)) : Int).toNat) ++ (⟨#[40]⟩ : ByteArray)).size + t324.size) = False := eq_false (Nat.not_lt.2 c16)
 try (have c16b3 := c16b2; simp only [ByteArray.size_append', show (⟨#[40]⟩ : ByteArray).size = 1 from rfl, show (⟨#[97, 98, 99, 100]⟩ : ByteArray).size = 4 from rfl, ByteArray.size_extract, Nat.min_eq_left (show ((wrap64 (((rd_T68 l0_1 a1).f0) + 1)) : Int).toNat ≤ 4 by omega)] at c16b3)
 by_cases c17 : ((((⟨#[97, 98, 99, 100]⟩ : ByteArray).extract (((rd_T68 l0_1 a1).f0) : Int).toNat ((wrap64 (((rd_T68 l0_1 a1).f0) + 1)) : Int).toNat) ++ (⟨#[40]⟩ : ByteArray)) ++ t324).size + 1 ≤ 9223372036854775807
 rotate_left
 ·rw [if_neg c17] at H
  exact absurd H (by simp)
 rw [if_pos c17] at H
 have c17b0 := eq_true c17
 have c17b1 : decide (((((⟨#[97, 98, 99, 100]⟩ : ByteArray).extract (((rd_T68 l0_1 a1).f0) : Int).toNat ((wrap64 (((rd_T68 l0_1 a1).f0) + 1)) : Int).toNat) ++ (⟨#[40]⟩ : ByteArray)) ++ t324).size + 1 ≤ 9223372036854775807) = true := decide_eq_true c17
 try have c17b2 : (9223372036854775807 < ((((⟨#[97, 98, 99, 100]⟩ : ByteArray).extract (((rd_T68 l0_1 a1).f0) : Int).toNat ((wrap64 (((rd_T68 l0_1 a1).f0) + 1)) : Int).toNat) ++ (⟨#[40]⟩ : ByteArray)) ++ t324).size + 1) = False := eq_false (Nat.not_lt.2 c17)
 try (have c17b3 := c17b2; simp only [ByteArray.size_append', show (⟨#[40]⟩ : ByteArray).size = 1 from rfl, show (⟨#[97, 98, 99, 100]⟩ : ByteArray).size = 4 from rfl, ByteArray.size_extract, Nat.min_eq_left (show ((wrap64 (((rd_T68 l0_1 a1).f0) + 1)) : Int).toNat ≤ 4 by omega)] at c17b3)
 replace H := Option.bind_eq_some_iff.mp H
 obtain ⟨t325, A180, H⟩ := H
 try dsimp only at H
 have A18 := mk_ A180
 clear A180
 by_cases c19 : (((((⟨#[97, 98, 99, 100]⟩ : ByteArray).extract (((rd_T68 l0_1 a1).f0) : Int).toNat ((wrap64 (((rd_T68 l0_1 a1).f0) + 1)) : Int).toNat) ++ (⟨#[40]⟩ : ByteArray)) ++ t324) ++ (⟨#[44]⟩ : ByteArray)).size + t325.size ≤ 9223372036854775807
 rotate_left
 ·rw [if_neg c19] at H
  exact absurd H (by simp)
 rw [if_pos c19] at H
 have c19b0 := eq_true c19
 have c19b1 : decide ((((((⟨#[97, 98, 99, 100]⟩ : ByteArray).extract (((rd_T68 l0_1 a1).f0) : Int).toNat ((wrap64 (((rd_T68 l0_1 a1).f0) + 1)) : Int).toNat) ++ (⟨#[40]⟩ : ByteArray)) ++ t324) ++ (⟨#[44]⟩ : ByteArray)).size + t325.size ≤ 9223372036854775807) = true := decide_eq_true c19
 try have c19b2 : (9223372036854775807 < (((((⟨#[97, 98, 99, 100]⟩ : ByteArray).extract (((rd_T68 l0_1 a1).f0) : Int).toNat ((wrap64 (((rd_T68 l0_1 a1).f0) + 1)) : Int).toNat) ++ (⟨#[40]⟩ : ByteArray)) ++ t324) ++ (⟨#[44]⟩ : ByteArray)).size + t325.size) = False := eq_false (Nat.not_lt.2 c19)
 try (have c19b3 := c19b2; simp only [ByteArray.size_append', show (⟨#[40]⟩ : ByteArray).size = 1 from rfl, show (⟨#[44]⟩ : ByteArray).size = 1 from rfl, show (⟨#[97, 98, 99, 100]⟩ : ByteArray).size = 4 from rfl, ByteArray.size_extract, Nat.min_eq_left (show ((wrap64 (((rd_T68 l0_1 a1).f0) + 1)) : Int).toNat ≤ 4 by omega)] at c19b3)
 by_cases c20 : ((((((⟨#[97, 98, 99, 100]⟩ : ByteArray).extract (((rd_T68 l0_1 a1).f0) : Int).toNat ((wrap64 (((rd_T68 l0_1 a1).f0) + 1)) : Int).toNat) ++ (⟨#[40]⟩ : ByteArray)) ++ t324) ++ (⟨#[44]⟩ : ByteArray)) ++ t325).size + 1 ≤ 9223372036854775807
 rotate_left
 ·rw [if_neg c20] at H
  exact absurd H (by simp)
 rw [if_pos c20] at H
 have c20b0 := eq_true c20
 have c20b1 : decide (((((((⟨#[97, 98, 99, 100]⟩ : ByteArray).extract (((rd_T68 l0_1 a1).f0) : Int).toNat ((wrap64 (((rd_T68 l0_1 a1).f0) + 1)) : Int).toNat) ++ (⟨#[40]⟩ : ByteArray)) ++ t324) ++ (⟨#[44]⟩ : ByteArray)) ++ t325).size + 1 ≤ 9223372036854775807) = true := decide_eq_true c20
 try have c20b2 : (9223372036854775807 < ((((((⟨#[97, 98, 99, 100]⟩ : ByteArray).extract (((rd_T68 l0_1 a1).f0) : Int).toNat ((wrap64 (((rd_T68 l0_1 a1).f0) + 1)) : Int).toNat) ++ (⟨#[40]⟩ : ByteArray)) ++ t324) ++ (⟨#[44]⟩ : ByteArray)) ++ t325).size + 1) = False := eq_false (Nat.not_lt.2 c20)
 try (have c20b3 := c20b2; simp only [ByteArray.size_append', show (⟨#[40]⟩ : ByteArray).size = 1 from rfl, show (⟨#[44]⟩ : ByteArray).size = 1 from rfl, show (⟨#[97, 98, 99, 100]⟩ : ByteArray).size = 4 from rfl, ByteArray.size_extract, Nat.min_eq_left (show ((wrap64 (((rd_T68 l0_1 a1).f0) + 1)) : Int).toNat ≤ 4 by omega)] at c20b3)
 obtain rfl := Option.some.inj H
 go_enter Tryd.func33, Tryd.ntmps33
 try go_wp2_with (first | ((with_reducible refine gate_dst (N := 2) rfl ?_); refine bx_ 2 #[.int .i64 a0_0, .slice A0_1 l0_1.length c0_1] 27 ?_; intro gb320 hg w21 hbox hb; have BK320 := mk_ (hbox); have GW320 := mk_ (gb_ hg HB.out); have GE320 := mk_ (gb_ hg HB.out); replace HB := mk_ (below_step (below_at HB.out) hb); clear hb hbox hg; have hcz22_0 := blk_cell BK320.out 0; have hcz22_1 := blk_cell BK320.out 1; have hfz22_0 := blk_frozen BK320.out 0; have hfz22_1 := blk_frozen BK320.out 1; have p322 : 0 ≤ (a1 : Int) := oa_; have q322 : a1 < (l0_1.length : Int) := oa_; obtain ⟨ad322, e322, hx322_0, hx322_1, hx322_2⟩ := at_T68 HR0_1.out a1 p322 q322; cases e322; replace hx322_0 := cel HB.out hx322_0; replace hx322_1 := cel HB.out hx322_1; replace hx322_2 := cel HB.out hx322_2; replace p322 := eq_true p322; replace q322 := eq_true q322) | ((with_reducible refine gate_dst (N := 5) rfl ?_); refine bx_ 5 #[.int .i64 0, .int .i64 0, .int .i64 0] 68 ?_; intro gb323 hg w23 hbox hb; have BK323 := mk_ (hbox); have GW323 := mk_ ((by rw [hg]; exact (below_size (at_ HB.out)) : w.heap.size ≤ gb323)); have GE323 := mk_ ((by rw [hg]; exact (below_size (at_ HB.out)) : w.heap.size ≤ gb323)); replace HB := mk_ (below_step (at_ HB.out) hb); have NB320_323 := mk_ ((by rw [hg]; exact Nat.ne_of_lt (blk_lt (g := gb320) (o := .cells #[.int .i64 a0_0, .slice (some ad322) l0_1.length c0_1] 27 (0, 0)) (bk_ BK320.out)) : gb320 ≠ gb323)); have NB323_320 := mk_ ((by rw [hg]; exact Nat.ne_of_gt (blk_lt (g := gb320) (o := .cells #[.int .i64 a0_0, .slice (some ad322) l0_1.length c0_1] 27 (0, 0)) (bk_ BK320.out)) : gb323 ≠ gb320)); replace BK320 := mk_ (blk_at BK320.out hb); clear hb hbox hg; have hnb24 := NB323_320.out; have hnc24 := NB320_323.out; have hcz25_0 := blk_cell BK323.out 0; have hcz25_1 := blk_cell BK323.out 1; have hcz25_2 := blk_cell BK323.out 2; have hfz25_0 := blk_frozen BK323.out 0; have hfz25_1 := blk_frozen BK323.out 1; have hfz25_2 := blk_frozen BK323.out 2))
 have n0_ : Aside0 ((((w23.setCell ⟨gb323, 0, none⟩ (.int .i64 ((rd_T68 l0_1 a1).f0))).setCell ⟨gb323, 1, none⟩ (.int .i64 ((rd_T68 l0_1 a1).f1))).setCell ⟨gb323, 2, none⟩ (.int .i64 ((rd_T68 l0_1 a1).f2))).heap[gb320]? = some (.cells #[.int .i64 a0_0, .slice (some ad322) l0_1.length c0_1] 27 (0, 0))) := ⟨by refine bs_ ?_; refine blk_far ?_ NB320_323.out _; refine bs_ ?_; refine blk_far ?_ NB320_323.out _; refine bs_ ?_; refine blk_far ?_ NB320_323.out _; refine bs_ ?_; exact BK320.out⟩
 have n1_ : Aside0 ((((w23.setCell ⟨gb323, 0, none⟩ (.int .i64 ((rd_T68 l0_1 a1).f0))).setCell ⟨gb323, 1, none⟩ (.int .i64 ((rd_T68 l0_1 a1).f1))).setCell ⟨gb323, 2, none⟩ (.int .i64 ((rd_T68 l0_1 a1).f2))).heap[gb323]? = some (.cells #[.int .i64 ((rd_T68 l0_1 a1).f0), .int .i64 ((rd_T68 l0_1 a1).f1), .int .i64 ((rd_T68 l0_1 a1).f2)] 68 (0, 0))) := ⟨by refine bs_ ?_; refine blk_put (cs := #[.int .i64 ((rd_T68 l0_1 a1).f0), .int .i64 ((rd_T68 l0_1 a1).f1), .int .i64 0]) ?_ 2 _ rfl; refine bs_ ?_; refine blk_put (cs := #[.int .i64 ((rd_T68 l0_1 a1).f0), .int .i64 0, .int .i64 0]) ?_ 1 _ rfl; refine bs_ ?_; refine blk_put (cs := #[.int .i64 0, .int .i64 0, .int .i64 0]) ?_ 0 _ rfl; refine bs_ ?_; exact BK323.out⟩
 have n2_ : Aside0 (Below w.heap.size w (((w23.setCell ⟨gb323, 0, none⟩ (.int .i64 ((rd_T68 l0_1 a1).f0))).setCell ⟨gb323, 1, none⟩ (.int .i64 ((rd_T68 l0_1 a1).f1))).setCell ⟨gb323, 2, none⟩ (.int .i64 ((rd_T68 l0_1 a1).f2)))) := ⟨at_ HB.out⟩
 (try clear BK320)
 (try clear BK323)
 (try clear HB)
 generalize (((w23.setCell ⟨gb323, 0, none⟩ (.int .i64 ((rd_T68 l0_1 a1).f0))).setCell ⟨gb323, 1, none⟩ (.int .i64 ((rd_T68 l0_1 a1).f1))).setCell ⟨gb323, 2, none⟩ (.int .i64 ((rd_T68 l0_1 a1).f2))) = w26 at n0_ n1_ n2_ ⊢
 have BK320 := n0_
 have BK323 := n1_
 have HB := n2_
 clear n0_ n1_ n2_
 replace BK320 := mk_ (blk_drew BK320.out)
 replace BK323 := mk_ (blk_drew BK323.out)
 replace HB := mk_ (below_drew1 HB.out)
 refine start_ (n := 20) (S := fun w' => w'.cell? ⟨gb323, 0, none⟩ = some (.int .i64 ((rd_T68 l0_1 a1).f0)) ∧ w'.cell? ⟨gb323, 1, none⟩ = some (.int .i64 ((rd_T68 l0_1 a1).f1)) ∧ w'.cell? ⟨gb323, 2, none⟩ = some (.int .i64 ((rd_T68 l0_1 a1).f2)) ∧ w'.cell? ⟨gb320, 0, none⟩ = some (.int .i64 a0_0) ∧ w'.cell? ⟨gb320, 1, none⟩ = some (.slice (some ad322) l0_1.length c0_1)) (ds := []) #[false, false, false, false, false, false, false, false, false, false, false, false, false, false, false, false, false, false, false, false] (by kernel_rfl) rfl rfl ⟨(blk_cell BK323.out 0).trans rfl, (blk_cell BK323.out 1).trans rfl, (blk_cell BK323.out 2).trans rfl, (blk_cell BK320.out 0).trans rfl, (blk_cell BK320.out 1).trans rfl⟩ (fun hHeld => ?_); refine with_tabW spec_l11Text.tab6 spec_l11Text.bits6 (fun HT_ HW_ => ?_)
 generalize w26.drew = w27 at BK320 BK323 HB hHeld ⊢
 refine pus_ 0 (some 18) (ao_ HT_) ?_
 refine pus_ 2 (some 20) (ao_ HT_) ?_
 refine pus_ 8 (some 26) (ao_ HT_) ?_
 refine pus_ 14 (some 32) (ao_ HT_) ?_
 refine tas_ 1 (some 19) (to_ HT_ HW_) hHeld ?_
 refine tas_ 3 (some 21) (to_ HT_ HW_) hHeld ?_
 refine pus_ 4 (some 22) (ao_ HT_) ?_
 refine pus_ 5 (some 23) (ao_ HT_) ?_
 refine pus_ 6 (some 24) (ao_ HT_) ?_
 refine tas_ 7 (some 25) (to_ HT_ HW_) hHeld ?_
 refine tas_ 9 (some 27) (to_ HT_ HW_) hHeld ?_
 refine tas_ 13 (some 31) (to_ HT_ HW_) hHeld ?_
 refine tas_ 15 (some 33) (to_ HT_ HW_) hHeld ?_
 refine ons_ 10 (some 28) (oo_ HT_) (fun K hK => ?_)
 refine goes_ Tryd.func33 (by kernel_rfl) rfl #[.agg #[.int .i64 a0_0, .slice (some ad322) l0_1.length c0_1], .int .i64 ((rd_T68 l0_1 a1).f1)] (by rfl) rfl rfl gl_ ?_
 with_reducible refine (ih k (by omega) a0_0 _ _ l0_1 ((rd_T68 l0_1 a1).f1) t324 _ ?side1 ?side2 A15.out).mono ?_
 (case side1 => exact Kd.C_below (Kd.C_below HR0_1.out HB.out) lt_)
 (case side2 => exact HC0_1.out)
 rintro e w28 ⟨rfl, hb⟩
 refine ⟨_, rfl, ?_⟩
 replace BK320 := mk_ (blk_at BK320.out hb)
 replace BK323 := mk_ (blk_at BK323.out hb)
 replace HB := mk_ (below_step (at_ HB.out) hb)
 (try clear hb)
 (try clear hb2)
 (try clear hk)
 (try clear hi)
 refine hK.out _ _ ⟨(blk_cell BK323.out 0).trans rfl, (blk_cell BK323.out 1).trans rfl, (blk_cell BK323.out 2).trans rfl, (blk_cell BK320.out 0).trans rfl, (blk_cell BK320.out 1).trans rfl⟩ (fun hHeld => ?_)
 clear hK K
 refine nor_ (some 28) ?_
 refine pus_ 11 (some 29) (ao_ HT_) ?_
 refine pus_ 12 (some 30) (ao_ HT_) ?_
 refine ons_ 16 (some 34) (oo_ HT_) (fun K hK => ?_)
 refine goes_ Tryd.func33 (by kernel_rfl) rfl #[.agg #[.int .i64 a0_0, .slice (some ad322) l0_1.length c0_1], .int .i64 ((rd_T68 l0_1 a1).f2)] (by rfl) rfl rfl gl_ ?_
 with_reducible refine (ih k (by omega) a0_0 _ _ l0_1 ((rd_T68 l0_1 a1).f2) t325 _ ?side1 ?side2 A18.out).mono ?_
 (case side1 => exact Kd.C_below (Kd.C_below HR0_1.out HB.out) lt_)
 (case side2 => exact HC0_1.out)
 rintro e w29 ⟨rfl, hb⟩
 refine ⟨_, rfl, ?_⟩
 replace BK320 := mk_ (blk_at BK320.out hb)
 replace BK323 := mk_ (blk_at BK323.out hb)
 replace HB := mk_ (below_step (at_ HB.out) hb)
 (try clear hb)
 (try clear hb2)
 (try clear hk)
 (try clear hi)
 refine hK.out _ _ ⟨(blk_cell BK323.out 0).trans rfl, (blk_cell BK323.out 1).trans rfl, (blk_cell BK323.out 2).trans rfl, (blk_cell BK320.out 0).trans rfl, (blk_cell BK320.out 1).trans rfl⟩ (fun hHeld => ?_)
 clear hK K
 refine nor_ (some 34) ?_
 refine pus_ 17 (some 35) (ao_ HT_) ?_
 refine pus_ 18 (some 36) (ao_ HT_) ?_
 refine pus_ 19 (some 4) (ao_ HT_) ?_
 refine done_ (done_of HT_.out (by kernel_rfl)) ?_
 try go_wp2
 go_ret
 exact ⟨er_, at_ HB.out⟩

/-! ### spec_ProofText: function 9 -/
def spec_ProofText.f (k : Nat) (a0 : Int) (l1 : List (S79)) (l2 : List (S82)) (a3_0 : Int) (l3_1 : List (S68)) : Option (ByteArray) := (spec_ProofOk.f k a0 l1 l2 a3_0 l3_1).bind fun t327 => (if t327 = true then ((spec_l11Text.f k a3_0 l3_1 a3_0).bind fun t328 => (some t328)) else (some (⟨#[]⟩ : ByteArray)))
set_option maxHeartbeats 8000000 in
set_option maxRecDepth 100000 in
theorem spec_ProofText.calls (k : Nat) (a0 : Int) (A1 : Option Addr) (c1 : Nat) (l1 : List (S79)) (A2 : Option Addr) (c2 : Nat) (l2 : List (S82)) (a3_0 : Int) (A3_1 : Option Addr) (c3_1 : Nat) (l3_1 : List (S68)) (r : ByteArray) (w : World) (hr1 : Kd.C k79 w A1 l1.length l1) (hc1 : l1.length ≤ c1) (hr2 : Kd.C k82 w A2 l2.length l2) (hc2 : l2.length ≤ c2) (hr3_1 : Kd.C k68 w A3_1 l3_1.length l3_1) (hc3_1 : l3_1.length ≤ c3_1) (h : spec_ProofText.f k a0 l1 l2 a3_0 l3_1 = some r) :
  Calls Tryd.prog 9 #[.int .i64 a0, .slice A1 l1.length c1, .slice A2 l2.length c2, .agg #[.int .i64 a3_0, .slice A3_1 l3_1.length c3_1]] w fun e w' => e = .returned (.string r) ∧ Below w.heap.size w w' := by
 have hu27 := Tryd.underlying27
 have HR1 := mk_ hr1
 have HC1 := mk_ hc1
 clear hr1 hc1
 have HR2 := mk_ hr2
 have HC2 := mk_ hc2
 clear hr2 hc2
 have HR3_1 := mk_ hr3_1
 have HC3_1 := mk_ hc3_1
 clear hr3_1 hc3_1
 have HB := mk_ (Below.refl w.heap.size w)
 unfold spec_ProofText.f at h
 have H := h
 clear h
 replace H := Option.bind_eq_some_iff.mp H
 obtain ⟨t327, A50, H⟩ := H
 try dsimp only at H
 have A5 := mk_ A50
 clear A50
 by_cases c6 : t327 = true
 rotate_left
 ·replace c6 := Bool.eq_false_iff.mpr c6
  subst c6
  rw [if_neg Bool.false_ne_true] at H
  obtain rfl := Option.some.inj H
  go_enter Tryd.func9, Tryd.ntmps9
  go_wp2_with (first | ((with_reducible refine gate_dst (N := 7) rfl ?_); refine bx_ 7 #[.int .i64 a3_0, .slice A3_1 l3_1.length c3_1] 27 ?_; intro gb326 hg w13 hbox hb; have BK326 := mk_ (hbox); have GW326 := mk_ (gb_ hg HB.out); have GE326 := mk_ (gb_ hg HB.out); replace HB := mk_ (below_step (below_at HB.out) hb); clear hb hbox hg; have hcz14_0 := blk_cell BK326.out 0; have hcz14_1 := blk_cell BK326.out 1; have hfz14_0 := blk_frozen BK326.out 0; have hfz14_1 := blk_frozen BK326.out 1) | ((with_reducible refine gate_callee (f := 32) rfl ?_); refine goesL_ (some 13) rfl rfl Tryd.func32 (by kernel_rfl) rfl #[.int .i64 a0, .slice A1 l1.length c1, .slice A2 l2.length c2, .agg #[.int .i64 a3_0, .slice A3_1 l3_1.length c3_1]] rfl gl_ ?_; (with_reducible refine (spec_ProofOk.calls k a0 _ _ l1 _ _ l2 a3_0 _ _ l3_1 false _ ?side1 ?side2 ?side3 ?side4 ?side5 ?side6 A5.out).mono ?_); (case side1 => exact Kd.C_below (Kd.C_below HR1.out HB.out) lt_); (case side2 => exact HC1.out); (case side3 => exact Kd.C_below (Kd.C_below HR2.out HB.out) lt_); (case side4 => exact HC2.out); (case side5 => exact Kd.C_below (Kd.C_below HR3_1.out HB.out) lt_); (case side6 => exact HC3_1.out); rintro e w15 ⟨rfl, hb⟩; refine ⟨_, rfl, ?_⟩; replace HB := mk_ (below_step (at_ HB.out) hb); (try clear BK326); (try clear hb); (try clear hb2); (try clear hk); (try clear hi)))
  go_ret
  exact ⟨er_, at_ HB.out⟩
 subst c6
 rw [if_pos rfl] at H
 replace H := Option.bind_eq_some_iff.mp H
 obtain ⟨t328, A70, H⟩ := H
 replace H : (some t328) = some r := H
 have A7 := mk_ A70
 clear A70
 obtain rfl := Option.some.inj H
 go_enter Tryd.func9, Tryd.ntmps9
 go_wp2_with (first | ((with_reducible refine gate_dst (N := 7) rfl ?_); refine bx_ 7 #[.int .i64 a3_0, .slice A3_1 l3_1.length c3_1] 27 ?_; intro gb326 hg w8 hbox hb; have BK326 := mk_ (hbox); have GW326 := mk_ (gb_ hg HB.out); have GE326 := mk_ (gb_ hg HB.out); replace HB := mk_ (below_step (below_at HB.out) hb); clear hb hbox hg; have hcz9_0 := blk_cell BK326.out 0; have hcz9_1 := blk_cell BK326.out 1; have hfz9_0 := blk_frozen BK326.out 0; have hfz9_1 := blk_frozen BK326.out 1) | ((with_reducible refine gate_callee (f := 32) rfl ?_); refine goesL_ (some 13) rfl rfl Tryd.func32 (by kernel_rfl) rfl #[.int .i64 a0, .slice A1 l1.length c1, .slice A2 l2.length c2, .agg #[.int .i64 a3_0, .slice A3_1 l3_1.length c3_1]] rfl gl_ ?_; (with_reducible refine (spec_ProofOk.calls k a0 _ _ l1 _ _ l2 a3_0 _ _ l3_1 true _ ?side1 ?side2 ?side3 ?side4 ?side5 ?side6 A5.out).mono ?_); (case side1 => exact Kd.C_below (Kd.C_below HR1.out HB.out) lt_); (case side2 => exact HC1.out); (case side3 => exact Kd.C_below (Kd.C_below HR2.out HB.out) lt_); (case side4 => exact HC2.out); (case side5 => exact Kd.C_below (Kd.C_below HR3_1.out HB.out) lt_); (case side6 => exact HC3_1.out); rintro e w10 ⟨rfl, hb⟩; refine ⟨_, rfl, ?_⟩; replace BK326 := mk_ (blk_at BK326.out hb); replace HB := mk_ (below_step (at_ HB.out) hb); (try clear hb); (try clear hb2); (try clear hk); (try clear hi); have hcz11_0 := blk_cell BK326.out 0; have hcz11_1 := blk_cell BK326.out 1; have hfz11_0 := blk_frozen BK326.out 0; have hfz11_1 := blk_frozen BK326.out 1) | ((with_reducible refine gate_callee (f := 33) rfl ?_); refine goesL_ (some 18) rfl rfl Tryd.func33 (by kernel_rfl) rfl #[.agg #[.int .i64 a3_0, .slice A3_1 l3_1.length c3_1], .int .i64 a3_0] rfl gl_ ?_; (with_reducible refine (spec_l11Text.calls k a3_0 _ _ l3_1 a3_0 t328 _ ?side1 ?side2 A7.out).mono ?_); (case side1 => exact Kd.C_below (Kd.C_below HR3_1.out HB.out) lt_); (case side2 => exact HC3_1.out); rintro e w12 ⟨rfl, hb⟩; refine ⟨_, rfl, ?_⟩; replace HB := mk_ (below_step (at_ HB.out) hb); (try clear BK326); (try clear hb); (try clear hb2); (try clear hk); (try clear hi)))
 go_ret
 exact ⟨er_, at_ HB.out⟩

end Go.Proofs.YtcaogllnbpmcgaaDoor.P

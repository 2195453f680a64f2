/- Go's functions come to just the answers of the Lean functions told here. -/
import Derived.Test.YtcaogllnbpmcgaaDoorPx19
namespace Go.Proofs.YtcaogllnbpmcgaaDoor.P
open Go.RowKit Go.Proofs.YtcaogllnbpmcgaaDoorW.PrintWords Go.Proofs.YtcaogllnbpmcgaaDoorW.PrintLast Go.Proofs.YtcaogllnbpmcgaaDoorW.PrintMore
attribute [local go_sem] max2_int min2_int max_two min_two max_three min_three max_four min_four
set_option linter.unusedVariables false
set_option linter.unusedSimpArgs false

/-! ### spec_l1Number: function 62 -/
def spec_l1Number.f : Nat → Int → Option (ByteArray)
 | 0, _ => none
 | k + 1, a0 => if a0 < 10 then (some (strOfNums (([(wrap64 (48 + (mx a0 0))) % 256] : List Int)))) else ((spec_l1Number.f k (wrap64 (Int.tdiv a0 10))).bind fun t265 => ((some (([(wrap64 (48 + (Int.tmod a0 10))) % 256] : List Int) : List Int)).bind fun y266 => (if t265.size + (strOfNums y266).size ≤ 9223372036854775807 then (some (t265 ++ (strOfNums y266))) else (none))))
theorem spec_l1Number.mono_l : ∀ k, (∀ y0, LeO (spec_l1Number.f k y0) (spec_l1Number.f (k + 1) y0))
 | 0 => fun _ r h => by simp [spec_l1Number.f] at h
 | k + 1 => by
  have ih0 := spec_l1Number.mono_l k
  ·intro y0
   unfold spec_l1Number.f
   repeat' first
   | (with_reducible exact ih0 _)
   | (with_reducible exact LeO.refl _)
   | (with_reducible exact LeO.none _)
   | (with_reducible refine LeO.ite ?_ ?_)
   | (with_reducible refine LeO.bind ?_ (fun _ => ?_))
theorem spec_l1Number.mono : ∀ a0 k, LeO (spec_l1Number.f k a0) (spec_l1Number.f (k + 1) a0) := by
 intro a0 k
 have ih0 := spec_l1Number.mono_l k
 exact ih0 a0
def spec_l1Number.T3 : Bool × List (List Nat × List Nat) := (true, [([], []), ([0], [0]), ([1], [1]), ([], []), ([3], [3]), ([4], [4]), ([5], [5]), ([6], [6]), ([7], [7]), ([2, 8], [2, 8]), ([9, 2, 0, 1, 2, 3, 4, 5, 6, 7, 8, 9], [9])])
def spec_l1Number.B3 : List Nat := [0, 1, 3, 0, 8, 24, 56, 120, 248, 511, 1023]
theorem spec_l1Number.tab3 : rtab .any (opsOf Tryd.f62 3) = spec_l1Number.T3 := by kernel_rfl
theorem spec_l1Number.bits3 : waitsOk spec_l1Number.T3.2 spec_l1Number.B3 = true := by kernel_rfl
set_option maxHeartbeats 8000000 in
set_option maxRecDepth 100000 in
theorem spec_l1Number.calls (k : Nat) : ∀ (a0 : Int) (r : ByteArray) (w : World) (h : spec_l1Number.f k a0 = some r),
  Calls Tryd.prog 62 #[.int .i64 a0] w fun e w' => e = .returned (.string r) ∧ Below w.heap.size w w' := by
 induction k using Nat.strongRecOn with
 | _ k ih =>
 intro a0 r w h
 cases k with
 | zero => exact absurd h (by simp [spec_l1Number.f])
 | succ k =>
 simp only [spec_l1Number.f] at h
 have HB := mk_ (Below.refl w.heap.size w)
 have H : (if a0 < 10 then (some (strOfNums (([(wrap64 (48 + (mx a0 0))) % 256] : List Int)))) else ((spec_l1Number.f k (wrap64 (Int.tdiv a0 10))).bind fun t265 => ((some (([(wrap64 (48 + (Int.tmod a0 10))) % 256] : List Int) : List Int)).bind fun y266 => (if t265.size + (strOfNums y266).size ≤ 9223372036854775807 then (some (t265 ++ (strOfNums y266))) else (none))))) = some r := h
 clear h
 by_cases c2 : a0 < 10
 ·rw [if_pos c2] at H
  have c2b0 : decide (a0 < 10) = true := decide_eq_true c2
  clear c2
  obtain ⟨ji3, hji3⟩ : ∃ j_ : Int, (mx a0 0) = j_ := ⟨_, rfl⟩
  replace H : (some (strOfNums (([(wrap64 (48 + (ji3))) % 256] : List Int)))) = some r := by first | (rw [hji3] at H; exact H) | (simp only [hji3] at H ⊢; exact H)
  (try (have hji3l : 0 ≤ ji3 := by (rw [← hji3]; unfold mx; (repeat' split) <;> omega)))
  (try (have hji3m : 0 ≤ ji3 := by omega))
  have hji3_ : (if a0 < 0 then 0 else a0) = ji3 := hji3
  obtain ⟨y262, hy262⟩ : ∃ y_ : List Int, y_ = (([(wrap64 (48 + (ji3))) % 256] : List Int)) := ⟨_, rfl⟩
  replace H : (some (strOfNums y262)) = some r := by first | (rw [hy262]; exact H) | exact H
  have Ny262 := mk_ hy262
  clear hy262
  obtain rfl := Option.some.inj H
  go_enter Tryd.func62, Tryd.ntmps62
  go_wp2_with (first | ((with_reducible refine gate_dst (N := 9) rfl ?_); refine Kd.R_lit (Kd.int .u8) _ 5 ?hg (N := 9) ?hd (xs := ([(wrap64 (48 + (ji3))) % 256] : List Int)) (inner := [.int .u8 ((wrap64 (48 + (ji3))) % 256)]) (ok := fun _ => True) (okp := fun _ => True) ?hr ?hp (fun _ hk => hk) trivial (Below.refl _ _) (Nat.le_refl _) (by simp) ?_; (case hd => rfl); (case hg => rfl); (case hr => first | (go_simp; done) | (go_simp; rfl)); (case hp => exact (Reps.one (show Kd.M (Kd.int .u8) _ _ _ ((wrap64 (48 + (ji3))) % 256) [.int .u8 ((wrap64 (48 + (ji3))) % 256)] from rfl) (Reps.none _ _))); intro v263 w4 ho5 hb hg_ hnew_; clear hg_ hnew_; (first | rw [← Ny262.out] at ho5 | (simp only [Int.reduceToNat] at ho5; rw [← Ny262.out] at ho5)); have HO264 := mk_ (Kd.R_lower ho5 (below_size (below_at HB.out))); replace HB := mk_ (below_step (below_at HB.out) hb); clear hb ho5; have hcv6 := own_string (P := Tryd.prog) Tryd.underlying22 Tryd.underlying5 Tryd.underlying9 (Kd.own_of_R HO264.out)))
  go_ret
  exact ⟨by first | rfl | (simp [errW_none, errW_some] <;> rfl) | (simp only [← hji3]; first | rfl | (simp [errW_none, errW_some] <;> rfl)) | (simp [*, errW_none, errW_some] <;> rfl), below_at HB.out⟩
 rw [if_neg c2] at H
 have c2b0 : decide (a0 < 10) = false := decide_eq_false c2
 clear c2
 replace H := Option.bind_eq_some_iff.mp H
 obtain ⟨t265, A70, H⟩ := H
 try dsimp only at H
 have A7 := mk_ A70
 clear A70
 obtain ⟨y266, hy266⟩ : ∃ y_ : List Int, y_ = (([(wrap64 (48 + (Int.tmod a0 10))) % 256] : List Int)) := ⟨_, rfl⟩
 replace H : (if t265.size + (strOfNums y266).size ≤ 9223372036854775807 then (some (t265 ++ (strOfNums y266))) else (none)) = some r := by first | (rw [hy266]; exact H) | exact H
 have Ny266 := mk_ hy266
 clear hy266
 by_cases c8 : t265.size + (strOfNums y266).size ≤ 9223372036854775807
 rotate_left
 ·rw [if_neg c8] at H
  exact absurd H (by simp)
 rw [if_pos c8] at H
 have c8b0 := eq_true c8
 have c8b1 : decide (t265.size + (strOfNums y266).size ≤ 9223372036854775807) = true := decide_eq_true c8
 try have c8b2 : (9223372036854775807 < t265.size + (strOfNums y266).size) = False := eq_false (Nat.not_lt.2 c8)
 obtain rfl := Option.some.inj H
 go_enter Tryd.func62, Tryd.ntmps62
 try go_wp2
 replace HB := mk_ (below_drew1 HB.out)
 refine start_ (n := 11) (S := fun w' => True) (ds := []) #[false, false, false, false, false, false, false, false, false, false, false] (by kernel_rfl) rfl rfl trivial (fun hHeld => ?_); refine with_tabW spec_l1Number.tab3 spec_l1Number.bits3 (fun HT_ HW_ => ?_)
 generalize w.drew = w9 at HB hHeld ⊢
 refine pure_ (i := 0) (N := some 11) (v := ?_) (a' := ?_) #[true, false, false, false, false, false, false, false, false, false, false] rfl rfl (any_of HT_.out (by kernel_rfl)) (fun _ _ _ h => h) (Or.inl ⟨by rfl, ?_⟩) ?_ ?_
 rotate_left
 ·intro w'
  go_simp
  with_reducible rfl
 rotate_left
 ·simp only [Act.put, z0_, z1_, z2_, i64_w, i32_w]
  rfl
 refine pure_ (i := 1) (N := some 12) (v := ?_) (a' := ?_) #[true, true, false, false, false, false, false, false, false, false, false] rfl rfl (any_of HT_.out (by kernel_rfl)) (fun _ _ _ h => h) (Or.inl ⟨by rfl, ?_⟩) ?_ ?_
 rotate_left
 ·intro w'
  go_simp
  with_reducible rfl
 rotate_left
 ·simp only [Act.put, z0_, z1_, z2_, i64_w, i32_w]
  rfl
 refine pure_ (i := 3) (N := some 14) (v := ?_) (a' := ?_) #[true, true, false, true, false, false, false, false, false, false, false] rfl rfl (any_of HT_.out (by kernel_rfl)) (fun _ _ _ h => h) (Or.inl ⟨by rfl, ?_⟩) ?_ ?_
 rotate_left
 ·intro w'
  go_simp
  with_reducible rfl
 rotate_left
 ·simp only [Act.put, z0_, z1_, z2_, i64_w, i32_w]
  rfl
 refine pure_ (i := 4) (N := some 15) (v := ?_) (a' := ?_) #[true, true, false, true, true, false, false, false, false, false, false] rfl rfl (any_of HT_.out (by kernel_rfl)) (fun _ _ _ h => h) (Or.inl ⟨by rfl, ?_⟩) ?_ ?_
 rotate_left
 ·intro w'
  go_simp
  with_reducible rfl
 rotate_left
 ·simp only [Act.put, z0_, z1_, z2_, i64_w, i32_w]
  rfl
 refine pure_ (i := 5) (N := some 16) (v := ?_) (a' := ?_) #[true, true, false, true, true, true, false, false, false, false, false] rfl rfl (any_of HT_.out (by kernel_rfl)) (fun _ _ _ h => h) (Or.inl ⟨by rfl, ?_⟩) ?_ ?_
 rotate_left
 ·intro w'
  go_simp
  with_reducible rfl
 rotate_left
 ·simp only [Act.put, z0_, z1_, z2_, i64_w, i32_w]
  rfl
 refine pure_ (i := 6) (N := some 17) (v := ?_) (a' := ?_) #[true, true, false, true, true, true, true, false, false, false, false] rfl rfl (any_of HT_.out (by kernel_rfl)) (fun _ _ _ h => h) (Or.inl ⟨by rfl, ?_⟩) ?_ ?_
 rotate_left
 ·intro w'
  go_simp
  with_reducible rfl
 rotate_left
 ·simp only [Act.put, z0_, z1_, z2_, i64_w, i32_w]
  rfl
 refine join_ (σ := Value) 2 #[true, true, true, true, true, true, true, true, true, false, false] (fun s_ => [(13, .string t265), (18, s_), (19, .string (strOfNums y266))]) (fun s_ w' => (Kd.R (Kd.int .u8) 5 w' w.heap.size (fun _ => True) s_ y266) ∧ (Below w.heap.size w w')) ?_ ?_
 rotate_left
 ·intro hCont
  refine two_ (i := 2) (j := 7) (Ni := some 13) (Nj := some 18) #[true, true, true, true, true, true, true, false, false, false, false] #[true, true, false, true, true, true, true, true, false, false, false] rfl rfl rfl rfl (two_of HT_.out (by kernel_rfl)) (by decide) (by decide) (fun K hK => ?_) (fun K hK => ?_)
  ·skip
   refine goes_ Tryd.func62 (by kernel_rfl) rfl #[.int .i64 (wrap64 (Int.tdiv a0 10))] (by rfl) rfl rfl gl_ ?_
   with_reducible refine (ih k (by omega) (wrap64 (Int.tdiv a0 10)) t265 _ A7.out).mono ?_
   rintro e w10 ⟨rfl, hb⟩
   refine ⟨_, rfl, ?_⟩
   replace HB := mk_ (below_step (below_at HB.out) hb)
   (try clear hb)
   (try clear hb2)
   (try clear hk)
   (try clear hi)
   refine hK.out _ _ trivial (fun hHeld => ?_)
   clear hK K
   refine norm_ (a' := ?_) ?_ ?_
   rotate_left
   ·show Act.put _ (some 13) _ = _
    simp only [Act.put, z0_, z1_, z2_, i64_w, i32_w]
    rfl
   refine one_ (i := 7) (N := some 18) #[true, true, true, true, true, true, true, true, false, false, false] rfl rfl (one_of HT_.out (by kernel_rfl)) (by decide) (fun K hK => ?_)
   refine Kd.R_lit_step (Kd.int .u8) _ 5 ?hg (N := 18) ?hd (xs := ([(wrap64 (48 + (Int.tmod a0 10))) % 256] : List Int)) (inner := [.int .u8 ((wrap64 (48 + (Int.tmod a0 10))) % 256)]) (ok := fun _ => True) (okp := fun _ => True) ?hr ?hp (fun _ hk => hk) trivial (Below.refl _ _) (Nat.le_refl _) (by simp) ?_; (case hd => rfl); (case hg => rfl); (case hr => first | (go_simp; done) | (go_simp; rfl)); (case hp => exact (Reps.one (show Kd.M (Kd.int .u8) _ _ _ ((wrap64 (48 + (Int.tmod a0 10))) % 256) [.int .u8 ((wrap64 (48 + (Int.tmod a0 10))) % 256)] from rfl) (Reps.none _ _)))
   intro v267 w11 ho12 hb hg_ hnew_
   clear hg_ hnew_
   (first | rw [← Ny266.out] at ho12 | (simp only [Int.reduceToNat] at ho12; rw [← Ny266.out] at ho12))
   have HO268 := mk_ (Kd.R_lower ho12 (below_size (below_at HB.out)))
   replace HB := mk_ (below_step (below_at HB.out) hb)
   clear hb ho12
   refine hK.out _ _ trivial (fun hHeld => ?_)
   clear hK K
   refine norm_ (a' := ?_) ?_ ?_
   rotate_left
   ·show Act.put _ (some 18) _ = _
    simp only [Act.put, z0_, z1_, z2_, i64_w, i32_w]
    rfl
   refine one_ (i := 8) (N := some 19) #[true, true, true, true, true, true, true, true, true, false, false] rfl rfl (one_of HT_.out (by kernel_rfl)) (by decide) (fun K hK => ?_)
   have hcv13 := own_string (P := Tryd.prog) Tryd.underlying22 Tryd.underlying5 Tryd.underlying9 (Kd.own_of_R HO268.out)
   refine value_ (w1 := ?_) (v := ?_) (by rfl) rfl ?_ ?_
   rotate_left 2
   ·go_simp
    constructor
    ·rfl
    rfl
   clear hcv13
   refine hK.out _ _ trivial (fun hHeld => ?_)
   clear hK K
   refine norm_ (a' := ?_) ?_ ?_
   rotate_left
   ·show Act.put _ (some 19) _ = _
    simp only [Act.put, z0_, z1_, z2_, i64_w, i32_w]
    rfl
   exact norm_ (by simp only [putAll, Act.put, z0_, z1_, z2_]) (hCont (v267) _ ⟨(Kd.R_below HO268.out lt_), (below_at HB.out)⟩)
  skip
  refine Kd.R_lit_step (Kd.int .u8) _ 5 ?hg (N := 18) ?hd (xs := ([(wrap64 (48 + (Int.tmod a0 10))) % 256] : List Int)) (inner := [.int .u8 ((wrap64 (48 + (Int.tmod a0 10))) % 256)]) (ok := fun _ => True) (okp := fun _ => True) ?hr ?hp (fun _ hk => hk) trivial (Below.refl _ _) (Nat.le_refl _) (by simp) ?_; (case hd => rfl); (case hg => rfl); (case hr => first | (go_simp; done) | (go_simp; rfl)); (case hp => exact (Reps.one (show Kd.M (Kd.int .u8) _ _ _ ((wrap64 (48 + (Int.tmod a0 10))) % 256) [.int .u8 ((wrap64 (48 + (Int.tmod a0 10))) % 256)] from rfl) (Reps.none _ _)))
  intro v267 w10 ho11 hb hg_ hnew_
  clear hg_ hnew_
  (first | rw [← Ny266.out] at ho11 | (simp only [Int.reduceToNat] at ho11; rw [← Ny266.out] at ho11))
  have HO268 := mk_ (Kd.R_lower ho11 (below_size (below_at HB.out)))
  replace HB := mk_ (below_step (below_at HB.out) hb)
  clear hb ho11
  refine hK.out _ _ trivial (fun hHeld => ?_)
  clear hK K
  refine norm_ (a' := ?_) ?_ ?_
  rotate_left
  ·show Act.put _ (some 18) _ = _
   simp only [Act.put, z0_, z1_, z2_, i64_w, i32_w]
   rfl
  refine two_ (i := 2) (j := 8) (Ni := some 13) (Nj := some 19) #[true, true, true, true, true, true, true, true, false, false, false] #[true, true, false, true, true, true, true, true, true, false, false] rfl rfl rfl rfl (two_of HT_.out (by kernel_rfl)) (by decide) (by decide) (fun K hK => ?_) (fun K hK => ?_)
  ·skip
   refine goes_ Tryd.func62 (by kernel_rfl) rfl #[.int .i64 (wrap64 (Int.tdiv a0 10))] (by rfl) rfl rfl gl_ ?_
   with_reducible refine (ih k (by omega) (wrap64 (Int.tdiv a0 10)) t265 _ A7.out).mono ?_
   rintro e w12 ⟨rfl, hb⟩
   refine ⟨_, rfl, ?_⟩
   replace HO268 := mk_ (Kd.R_below (Kd.R_below HO268.out lt_) hb)
   replace HB := mk_ (below_step (below_at HB.out) hb)
   (try clear hb)
   (try clear hb2)
   (try clear hk)
   (try clear hi)
   refine hK.out _ _ trivial (fun hHeld => ?_)
   clear hK K
   refine norm_ (a' := ?_) ?_ ?_
   rotate_left
   ·show Act.put _ (some 13) _ = _
    simp only [Act.put, z0_, z1_, z2_, i64_w, i32_w]
    rfl
   refine one_ (i := 8) (N := some 19) #[true, true, true, true, true, true, true, true, true, false, false] rfl rfl (one_of HT_.out (by kernel_rfl)) (by decide) (fun K hK => ?_)
   have hcv13 := own_string (P := Tryd.prog) Tryd.underlying22 Tryd.underlying5 Tryd.underlying9 (Kd.own_of_R HO268.out)
   refine value_ (w1 := ?_) (v := ?_) (by rfl) rfl ?_ ?_
   rotate_left 2
   ·go_simp
    constructor
    ·rfl
    rfl
   clear hcv13
   refine hK.out _ _ trivial (fun hHeld => ?_)
   clear hK K
   refine norm_ (a' := ?_) ?_ ?_
   rotate_left
   ·show Act.put _ (some 19) _ = _
    simp only [Act.put, z0_, z1_, z2_, i64_w, i32_w]
    rfl
   exact norm_ (by simp only [putAll, Act.put, z0_, z1_, z2_]) (hCont (v267) _ ⟨(Kd.R_below HO268.out lt_), (below_at HB.out)⟩)
  skip
  have hcv12 := own_string (P := Tryd.prog) Tryd.underlying22 Tryd.underlying5 Tryd.underlying9 (Kd.own_of_R HO268.out)
  refine value_ (w1 := ?_) (v := ?_) (by rfl) rfl ?_ ?_
  rotate_left 2
  ·go_simp
   constructor
   ·rfl
   rfl
  clear hcv12
  refine hK.out _ _ trivial (fun hHeld => ?_)
  clear hK K
  refine norm_ (a' := ?_) ?_ ?_
  rotate_left
  ·show Act.put _ (some 19) _ = _
   simp only [Act.put, z0_, z1_, z2_, i64_w, i32_w]
   rfl
  refine one_ (i := 2) (N := some 13) #[true, true, true, true, true, true, true, true, true, false, false] rfl rfl (one_of HT_.out (by kernel_rfl)) (by decide) (fun K hK => ?_)
  refine goes_ Tryd.func62 (by kernel_rfl) rfl #[.int .i64 (wrap64 (Int.tdiv a0 10))] (by rfl) rfl rfl gl_ ?_
  with_reducible refine (ih k (by omega) (wrap64 (Int.tdiv a0 10)) t265 _ A7.out).mono ?_
  rintro e w13 ⟨rfl, hb⟩
  refine ⟨_, rfl, ?_⟩
  replace HO268 := mk_ (Kd.R_below (Kd.R_below HO268.out lt_) hb)
  replace HB := mk_ (below_step (below_at HB.out) hb)
  (try clear hb)
  (try clear hb2)
  (try clear hk)
  (try clear hi)
  refine hK.out _ _ trivial (fun hHeld => ?_)
  clear hK K
  refine norm_ (a' := ?_) ?_ ?_
  rotate_left
  ·show Act.put _ (some 13) _ = _
   simp only [Act.put, z0_, z1_, z2_, i64_w, i32_w]
   rfl
  exact norm_ (by simp only [putAll, Act.put, z0_, z1_, z2_]) (hCont (v267) _ ⟨(Kd.R_below HO268.out lt_), (below_at HB.out)⟩)
 rintro v267 w14 ⟨h0_, h1_⟩
 have n0_ : Aside0 (Kd.R (Kd.int .u8) 5 w14 w.heap.size (fun _ => True) v267 y266) := ⟨h0_⟩
 have n1_ : Aside0 (Below w.heap.size w w14) := ⟨h1_⟩
 clear HB
 clear h0_ h1_
 have HO268 := n0_
 have HB := n1_
 clear n0_ n1_
 have hHeld := trivial
 refine norm_ (a' := ?_) ?_ ?_
 rotate_left
 ·simp only [putAll, Act.put, z0_, z1_, z2_]
  rfl
 refine pure_ (i := 9) (N := some 20) (v := ?_) (a' := ?_) #[true, true, true, true, true, true, true, true, true, true, false] rfl rfl (any_of HT_.out (by kernel_rfl)) (fun _ _ _ h => h) (Or.inl ⟨by rfl, ?_⟩) ?_ ?_
 rotate_left
 ·intro w'
  go_simp
  with_reducible rfl
 rotate_left
 ·simp only [Act.put, z0_, z1_, z2_, i64_w, i32_w]
  rfl
 refine pure_ (i := 10) (N := some 2) (v := ?_) (a' := ?_) #[true, true, true, true, true, true, true, true, true, true, true] rfl rfl (any_of HT_.out (by kernel_rfl)) (fun _ _ _ h => h) (Or.inl ⟨by rfl, ?_⟩) ?_ ?_
 rotate_left
 ·intro w'
  go_simp
  with_reducible rfl
 rotate_left
 ·simp only [Act.put, z0_, z1_, z2_, i64_w, i32_w]
  rfl
 refine done_ (done_of HT_.out (by kernel_rfl)) ?_
 try go_wp2
 go_ret
 exact ⟨er_, below_at HB.out⟩

/-! ### spec_l11Text: function 33 -/
def spec_l11Text.f : Nat → Int → List (S68) → Int → Option (ByteArray)
 | 0, _, _, _ => none
 | k + 1, a0_0, l0_1, a1 => if a1 = (-1) then (some (⟨#[42]⟩ : ByteArray)) else (if a1 < 0 then ((spec_l1Number.f k (wrap64 ((-2) - a1))).bind fun t270 => (some t270)) else (if 0 ≤ a1 then (if a1 < (l0_1.length : Int) then (if 0 ≤ ((rd_T68 l0_1 a1).f0) then (if ((rd_T68 l0_1 a1).f0) ≤ (wrap64 (((rd_T68 l0_1 a1).f0) + 1)) then (if (wrap64 (((rd_T68 l0_1 a1).f0) + 1)) ≤ 4 then (if ((⟨#[97, 98, 99, 100]⟩ : ByteArray).extract (((rd_T68 l0_1 a1).f0) : Int).toNat ((wrap64 (((rd_T68 l0_1 a1).f0) + 1)) : Int).toNat).size + 1 ≤ 9223372036854775807 then ((spec_l11Text.f k a0_0 l0_1 ((rd_T68 l0_1 a1).f1)).bind fun t273 => (if (((⟨#[97, 98, 99, 100]⟩ : ByteArray).extract (((rd_T68 l0_1 a1).f0) : Int).toNat ((wrap64 (((rd_T68 l0_1 a1).f0) + 1)) : Int).toNat) ++ (⟨#[40]⟩ : ByteArray)).size + t273.size ≤ 9223372036854775807 then (if ((((⟨#[97, 98, 99, 100]⟩ : ByteArray).extract (((rd_T68 l0_1 a1).f0) : Int).toNat ((wrap64 (((rd_T68 l0_1 a1).f0) + 1)) : Int).toNat) ++ (⟨#[40]⟩ : ByteArray)) ++ t273).size + 1 ≤ 9223372036854775807 then ((spec_l11Text.f k a0_0 l0_1 ((rd_T68 l0_1 a1).f2)).bind fun t274 => (if (((((⟨#[97, 98, 99, 100]⟩ : ByteArray).extract (((rd_T68 l0_1 a1).f0) : Int).toNat ((wrap64 (((rd_T68 l0_1 a1).f0) + 1)) : Int).toNat) ++ (⟨#[40]⟩ : ByteArray)) ++ t273) ++ (⟨#[44]⟩ : ByteArray)).size + t274.size ≤ 9223372036854775807 then (if ((((((⟨#[97, 98, 99, 100]⟩ : ByteArray).extract (((rd_T68 l0_1 a1).f0) : Int).toNat ((wrap64 (((rd_T68 l0_1 a1).f0) + 1)) : Int).toNat) ++ (⟨#[40]⟩ : ByteArray)) ++ t273) ++ (⟨#[44]⟩ : ByteArray)) ++ t274).size + 1 ≤ 9223372036854775807 then (some (((((((⟨#[97, 98, 99, 100]⟩ : ByteArray).extract (((rd_T68 l0_1 a1).f0) : Int).toNat ((wrap64 (((rd_T68 l0_1 a1).f0) + 1)) : Int).toNat) ++ (⟨#[40]⟩ : ByteArray)) ++ t273) ++ (⟨#[44]⟩ : ByteArray)) ++ t274) ++ (⟨#[41]⟩ : ByteArray))) else (none)) else (none))) else (none)) else (none))) else (none)) else (none)) else (none)) else (none)) else (none)) else (none)))
theorem spec_l11Text.mono_l : ∀ k, (∀ y0 y1 y2, LeO (spec_l11Text.f k y0 y1 y2) (spec_l11Text.f (k + 1) y0 y1 y2))
 | 0 => fun _ _ _ r h => by simp [spec_l11Text.f] at h
 | k + 1 => by
  have ih0 := spec_l11Text.mono_l k
  ·intro y0 y1 y2
   unfold spec_l11Text.f
   repeat' first
   | (with_reducible exact ih0 _ _ _)
   | (with_reducible exact spec_l1Number.mono _ _)
   | (with_reducible exact LeO.refl _)
   | (with_reducible exact LeO.none _)
   | (with_reducible refine LeO.ite ?_ ?_)
   | (with_reducible refine LeO.bind ?_ (fun _ => ?_))
theorem spec_l11Text.mono : ∀ a0 a1 a2 k, LeO (spec_l11Text.f k a0 a1 a2) (spec_l11Text.f (k + 1) a0 a1 a2) := by
 intro a0 a1 a2 k
 have ih0 := spec_l11Text.mono_l k
 exact ih0 a0 a1 a2
def spec_l11Text.T6 : Bool × List (List Nat × List Nat) := (true, [([], []), ([0], [0]), ([], []), ([2], [2]), ([3], [3]), ([1, 4], [1, 4]), ([5], [5]), ([], []), ([], []), ([8], [8]), ([7, 9], [7, 9]), ([6, 10], [6, 10]), ([11], [11]), ([], []), ([], []), ([14], [14]), ([13, 15, 10], [13, 15]), ([12, 16], [12, 16]), ([17], [17]), ([18, 16, 0, 1, 2, 3, 4, 5, 6, 7, 8, 9, 10, 11, 12, 13, 14, 15, 16, 17, 18], [18])])
def spec_l11Text.B6 : List Nat := [0, 1, 0, 4, 12, 31, 63, 0, 0, 256, 896, 2047, 4095, 0, 0, 16384, 59264, 131071, 262143, 524287]
theorem spec_l11Text.tab6 : rtab .any (opsOf Tryd.f33 6) = spec_l11Text.T6 := by kernel_rfl
theorem spec_l11Text.bits6 : waitsOk spec_l11Text.T6.2 spec_l11Text.B6 = true := by kernel_rfl
set_option maxHeartbeats 8000000 in
set_option maxRecDepth 100000 in
theorem spec_l11Text.calls (k : Nat) : ∀ (a0_0 : Int) (A0_1 : Option Addr) (c0_1 : Nat) (l0_1 : List (S68)) (a1 : Int) (r : ByteArray) (w : World) (hr0_1 : Kd.C k68 w A0_1 l0_1.length l0_1) (hc0_1 : l0_1.length ≤ c0_1) (h : spec_l11Text.f k a0_0 l0_1 a1 = some r),
  Calls Tryd.prog 33 #[.agg #[.int .i64 a0_0, .slice A0_1 l0_1.length c0_1], .int .i64 a1] w fun e w' => e = .returned (.string r) ∧ Below w.heap.size w w' := by
 induction k using Nat.strongRecOn with
 | _ k ih =>
 intro a0_0 A0_1 c0_1 l0_1 a1 r w hr0_1 hc0_1 h
 cases k with
 | zero => exact absurd h (by simp [spec_l11Text.f])
 | succ k =>
 simp only [spec_l11Text.f] at h
 have hu27 := Tryd.underlying27
 have hu68 := Tryd.underlying68
 have HR0_1 := mk_ hr0_1
 have HC0_1 := mk_ hc0_1
 clear hr0_1 hc0_1
 have HB := mk_ (Below.refl w.heap.size w)
 have H : (if a1 = (-1) then (some (⟨#[42]⟩ : ByteArray)) else (if a1 < 0 then ((spec_l1Number.f k (wrap64 ((-2) - a1))).bind fun t270 => (some t270)) else (if 0 ≤ a1 then (if a1 < (l0_1.length : Int) then (if 0 ≤ ((rd_T68 l0_1 a1).f0) then (if ((rd_T68 l0_1 a1).f0) ≤ (wrap64 (((rd_T68 l0_1 a1).f0) + 1)) then (if (wrap64 (((rd_T68 l0_1 a1).f0) + 1)) ≤ 4 then (if ((⟨#[97, 98, 99, 100]⟩ : ByteArray).extract (((rd_T68 l0_1 a1).f0) : Int).toNat ((wrap64 (((rd_T68 l0_1 a1).f0) + 1)) : Int).toNat).size + 1 ≤ 9223372036854775807 then ((spec_l11Text.f k a0_0 l0_1 ((rd_T68 l0_1 a1).f1)).bind fun t273 => (if (((⟨#[97, 98, 99, 100]⟩ : ByteArray).extract (((rd_T68 l0_1 a1).f0) : Int).toNat ((wrap64 (((rd_T68 l0_1 a1).f0) + 1)) : Int).toNat) ++ (⟨#[40]⟩ : ByteArray)).size + t273.size ≤ 9223372036854775807 then (if ((((⟨#[97, 98, 99, 100]⟩ : ByteArray).extract (((rd_T68 l0_1 a1).f0) : Int).toNat ((wrap64 (((rd_T68 l0_1 a1).f0) + 1)) : Int).toNat) ++ (⟨#[40]⟩ : ByteArray)) ++ t273).size + 1 ≤ 9223372036854775807 then ((spec_l11Text.f k a0_0 l0_1 ((rd_T68 l0_1 a1).f2)).bind fun t274 => (if (((((⟨#[97, 98, 99, 100]⟩ : ByteArray).extract (((rd_T68 l0_1 a1).f0) : Int).toNat ((wrap64 (((rd_T68 l0_1 a1).f0) + 1)) : Int).toNat) ++ (⟨#[40]⟩ : ByteArray)) ++ t273) ++ (⟨#[44]⟩ : ByteArray)).size + t274.size ≤ 9223372036854775807 then (if ((((((⟨#[97, 98, 99, 100]⟩ : ByteArray).extract (((rd_T68 l0_1 a1).f0) : Int).toNat ((wrap64 (((rd_T68 l0_1 a1).f0) + 1)) : Int).toNat) ++ (⟨#[40]⟩ : ByteArray)) ++ t273) ++ (⟨#[44]⟩ : ByteArray)) ++ t274).size + 1 ≤ 9223372036854775807 then (some (((((((⟨#[97, 98, 99, 100]⟩ : ByteArray).extract (((rd_T68 l0_1 a1).f0) : Int).toNat ((wrap64 (((rd_T68 l0_1 a1).f0) + 1)) : Int).toNat) ++ (⟨#[40]⟩ : ByteArray)) ++ t273) ++ (⟨#[44]⟩ : ByteArray)) ++ t274) ++ (⟨#[41]⟩ : ByteArray))) else (none)) else (none))) else (none)) else (none))) else (none)) else (none)) else (none)) else (none)) else (none)) else (none)))) = some r := h
 clear h
 by_cases c3 : a1 = (-1)
 ·rw [if_pos c3] at H
  have c3b0 : (a1 == (-1)) = true := beq_iff_eq.mpr c3
  have c3b1 : (a1 != (-1)) = false := bne_eq_false_iff_eq.mpr c3
  clear c3
  obtain rfl := Option.some.inj H
  go_enter Tryd.func33, Tryd.ntmps33
  go_wp2_with (first | ((with_reducible refine gate_dst (N := 2) rfl ?_); refine box_event ?hg (N := 2) ?hd (cs := #[.int .i64 a0_0, .slice A0_1 l0_1.length c0_1]) (t := 27) ?hr ?_; (case hd => rfl); (case hg => rfl); (case hr => first | (go_simp; done) | (go_simp; rfl)); intro gb269 hg w4 hbox hb; have GW269 := mk_ (gb_ hg HB.out); have GE269 := mk_ (gb_ hg HB.out); replace HB := mk_ (below_step (below_at HB.out) hb); clear hb hbox hg))
  go_ret
  exact ⟨er_, at_ HB.out⟩
 rw [if_neg c3] at H
 have c3b0 : (a1 == (-1)) = false := beq_eq_false_iff_ne.mpr c3
 have c3b1 : (a1 != (-1)) = true := bne_iff_ne.mpr c3
 by_cases c5 : a1 < 0
 ·rw [if_pos c5] at H
  have c5b0 : decide (a1 < 0) = true := decide_eq_true c5
  clear c5
  replace H := Option.bind_eq_some_iff.mp H
  obtain ⟨t270, A60, H⟩ := H
  replace H : (some t270) = some r := H
  have A6 := mk_ A60
  clear A60
  obtain rfl := Option.some.inj H
  go_enter Tryd.func33, Tryd.ntmps33
  go_wp2_with (first | ((with_reducible refine gate_dst (N := 2) rfl ?_); refine box_event ?hg (N := 2) ?hd (cs := #[.int .i64 a0_0, .slice A0_1 l0_1.length c0_1]) (t := 27) ?hr ?_; (case hd => rfl); (case hg => rfl); (case hr => first | (go_simp; done) | (go_simp; rfl)); intro gb269 hg w7 hbox hb; have GW269 := mk_ (gb_ hg HB.out); have GE269 := mk_ (gb_ hg HB.out); replace HB := mk_ (below_step (below_at HB.out) hb); clear hb hbox hg) | ((with_reducible refine gate_callee (f := 62) rfl ?_); refine goesL_ (some 12) rfl rfl Tryd.func62 (by kernel_rfl) rfl #[.int .i64 (wrap64 ((-2) - a1))] rfl gl_ ?_; (with_reducible refine (spec_l1Number.calls k (wrap64 ((-2) - a1)) t270 _ A6.out).mono ?_); rintro e w8 ⟨rfl, hb⟩; refine ⟨_, rfl, ?_⟩; replace HB := mk_ (below_step (at_ HB.out) hb); (try clear BK269); (try clear hb); (try clear hb2); (try clear hk); (try clear hi)))
  go_ret
  exact ⟨er_, at_ HB.out⟩
 rw [if_neg c5] at H
 have c5b0 : decide (a1 < 0) = false := decide_eq_false c5
 clear c5
 by_cases c9 : 0 ≤ a1
 rotate_left
 ·rw [if_neg c9] at H
  exact absurd H (by simp)
 rw [if_pos c9] at H
 have c9b0 : decide (0 ≤ a1) = true := decide_eq_true c9
 clear c9
 by_cases c10 : a1 < (l0_1.length : Int)
 rotate_left
 ·rw [if_neg c10] at H
  exact absurd H (by simp)
 rw [if_pos c10] at H
 have c10b0 : decide (a1 < (l0_1.length : Int)) = true := decide_eq_true c10
 clear c10
 by_cases c11 : 0 ≤ ((rd_T68 l0_1 a1).f0)
 rotate_left
 ·rw [if_neg c11] at H
  exact absurd H (by simp)
 rw [if_pos c11] at H
 have c11b0 := eq_true c11
 have c11b1 : decide (0 ≤ ((rd_T68 l0_1 a1).f0)) = true := decide_eq_true c11
 clear c11
 by_cases c12 : ((rd_T68 l0_1 a1).f0) ≤ (wrap64 (((rd_T68 l0_1 a1).f0) + 1))
 rotate_left
 ·rw [if_neg c12] at H
  exact absurd H (by simp)
 rw [if_pos c12] at H
 have c12b0 := eq_true c12
 have c12b1 : decide (((rd_T68 l0_1 a1).f0) ≤ (wrap64 (((rd_T68 l0_1 a1).f0) + 1))) = true := decide_eq_true c12
 by_cases c13 : (wrap64 (((rd_T68 l0_1 a1).f0) + 1)) ≤ 4
 rotate_left
 ·rw [if_neg c13] at H
  exact absurd H (by simp)
 rw [if_pos c13] at H
 have c13b0 := eq_true c13
 have c13b1 : decide ((wrap64 (((rd_T68 l0_1 a1).f0) + 1)) ≤ 4) = true := decide_eq_true c13
 by_cases c14 : ((⟨#[97, 98, 99, 100]⟩ : ByteArray).extract (((rd_T68 l0_1 a1).f0) : Int).toNat ((wrap64 (((rd_T68 l0_1 a1).f0) + 1)) : Int).toNat).size + 1 ≤ 9223372036854775807
 rotate_left
 ·rw [if_neg c14] at H
  exact absurd H (by simp)
 rw [if_pos c14] at H
 have c14b0 := eq_true c14
 have c14b1 : decide (((⟨#[97, 98, 99, 100]⟩ : ByteArray).extract (((rd_T68 l0_1 a1).f0) : Int).toNat ((wrap64 (((rd_T68 l0_1 a1).f0) + 1)) : Int).toNat).size + 1 ≤ 9223372036854775807) = true := decide_eq_true c14
 try have c14b2 : (9223372036854775807 < ((⟨#[97, 98, 99, 100]⟩ : ByteArray).extract (((rd_T68 l0_1 a1).f0) : Int).toNat ((wrap64 (((rd_T68 l0_1 a1).f0) + 1)) : Int).toNat).size + 1) = False := eq_false (Nat.not_lt.2 c14)
 try (have c14b3 := c14b2; simp only [ByteArray.size_append', show (⟨#[97, 98, 99, 100]⟩ : ByteArray).size = 4 from rfl, ByteArray.size_extract, Nat.min_eq_left (show ((wrap64 (((rd_T68 l0_1 a1).f0) + 1)) : Int).toNat ≤ 4 by omega)] at c14b3)
 replace H := Option.bind_eq_some_iff.mp H
 obtain ⟨t273, A150, H⟩ := H
 try dsimp only at H
 have A15 := mk_ A150
 clear A150
 by_cases c16 : (((⟨#[97, 98, 99, 100]⟩ : ByteArray).extract (((rd_T68 l0_1 a1).f0) : Int).toNat ((wrap64 (((rd_T68 l0_1 a1).f0) + 1)) : Int).toNat) ++ (⟨#[40]⟩ : ByteArray)).size + t273.size ≤ 9223372036854775807
 rotate_left
 ·rw [if_neg c16] at H
  exact absurd H (by simp)
 rw [if_pos c16] at H
 have c16b0 := eq_true c16
 have c16b1 : decide ((((⟨#[97, 98, 99, 100]⟩ : ByteArray).extract (((rd_T68 l0_1 a1).f0) : Int).toNat ((wrap64 (((rd_T68 l0_1 a1).f0) + 1)) : Int).toNat) ++ (⟨#[40]⟩ : ByteArray)).size + t273.size ≤ 9223372036854775807) = true := decide_eq_true c16
 try have c16b2 : (9223372036854775807 < (((⟨#[97, 98, 99, 100]⟩ : ByteArray).extract (((rd_T68 l0_1 a1).f0) : Int).toNat ((wrap64 (((rd_T68 l0_1 a1).f0) + 1)) : Int).toNat) ++ (⟨#[40]⟩ : ByteArray)).size + t273.size) = False := eq_false (Nat.not_lt.2 c16)
 try (have c16b3 := c16b2; simp only [ByteArray.size_append', show (⟨#[40]⟩ : ByteArray).size = 1 from rfl, show (⟨#[97, 98, 99, 100]⟩ : ByteArray).size = 4 from rfl, ByteArray.size_extract, Nat.min_eq_left (show ((wrap64 (((rd_T68 l0_1 a1).f0) + 1)) : Int).toNat ≤ 4 by omega)] at c16b3)
 by_cases c17 : ((((⟨#[97, 98, 99, 100]⟩ : ByteArray).extract (((rd_T68 l0_1 a1).f0) : Int).toNat ((wrap64 (((rd_T68 l0_1 a1).f0) + 1)) : Int).toNat) ++ (⟨#[40]⟩ : ByteArray)) ++ t273).size + 1 ≤ 9223372036854775807
 rotate_left
 ·rw [if_neg c17] at H
  exact absurd H (by simp)
 rw [if_pos c17] at H
 have c17b0 := eq_true c17
 have c17b1 : decide (((((⟨#[97, 98, 99, 100]⟩ : ByteArray).extract (((rd_T68 l0_1 a1).f0) : Int).toNat ((wrap64 (((rd_T68 l0_1 a1).f0) + 1)) : Int).toNat) ++ (⟨#[40]⟩ : ByteArray)) ++ t273).size + 1 ≤ 9223372036854775807) = true := decide_eq_true c17
 try have c17b2 : (9223372036854775807 < ((((⟨#[97, 98, 99, 100]⟩ : ByteArray).extract (((rd_T68 l0_1 a1).f0) : Int).toNat ((wrap64 (((rd_T68 l0_1 a1).f0) + 1)) : Int).toNat) ++ (⟨#[40]⟩ : ByteArray)) ++ t273).size + 1) = False := eq_false (Nat.not_lt.2 c17)
 try (have c17b3 := c17b2; simp only [ByteArray.size_append', show (⟨#[40]⟩ : ByteArray).size = 1 from rfl, show (⟨#[97, 98, 99, 100]⟩ : ByteArray).size = 4 from rfl, ByteArray.size_extract, Nat.min_eq_left (show ((wrap64 (((rd_T68 l0_1 a1).f0) + 1)) : Int).toNat ≤ 4 by omega)] at c17b3)
 replace H := Option.bind_eq_some_iff.mp H
 obtain ⟨t274, A180, H⟩ := H
 try dsimp only at H
 have A18 := mk_ A180
 clear A180
 by_cases c19 : (((((⟨#[97, 98, 99, 100]⟩ : ByteArray).extract (((rd_T68 l0_1 a1).f0) : Int).toNat ((wrap64 (((rd_T68 l0_1 a1).f0) + 1)) : Int).toNat) ++ (⟨#[40]⟩ : ByteArray)) ++ t273) ++ (⟨#[44]⟩ : ByteArray)).size + t274.size ≤ 9223372036854775807
 rotate_left
 ·rw [if_neg c19] at H
  exact absurd H (by simp)
 rw [if_pos c19] at H
 have c19b0 := eq_true c19
 have c19b1 : decide ((((((⟨#[97, 98, 99, 100]⟩ : ByteArray).extract (((rd_T68 l0_1 a1).f0) : Int).toNat ((wrap64 (((rd_T68 l0_1 a1).f0) + 1)) : Int).toNat) ++ (⟨#[40]⟩ : ByteArray)) ++ t273) ++ (⟨#[44]⟩ : ByteArray)).size + t274.size ≤ 9223372036854775807) = true := decide_eq_true c19
 try have c19b2 : (9223372036854775807 < (((((⟨#[97, 98, 99, 100]⟩ : ByteArray).extract (((rd_T68 l0_1 a1).f0) : Int).toNat ((wrap64 (((rd_T68 l0_1 a1).f0) + 1)) : Int).toNat) ++ (⟨#[40]⟩ : ByteArray)) ++ t273) ++ (⟨#[44]⟩ : ByteArray)).size + t274.size) = False := eq_false (Nat.not_lt.2 c19)
 try (have c19b3 := c19b2; simp only [ByteArray.size_append', show (⟨#[40]⟩ : ByteArray).size = 1 from rfl, show (⟨#[44]⟩ : ByteArray).size = 1 from rfl, show (⟨#[97, 98, 99, 100]⟩ : ByteArray).size = 4 from rfl, ByteArray.size_extract, Nat.min_eq_left (show ((wrap64 (((rd_T68 l0_1 a1).f0) + 1)) : Int).toNat ≤ 4 by omega)] at c19b3)
 by_cases c20 : ((((((⟨#[97, 98, 99, 100]⟩ : ByteArray).extract (((rd_T68 l0_1 a1).f0) : Int).toNat ((wrap64 (((rd_T68 l0_1 a1).f0) + 1)) : Int).toNat) ++ (⟨#[40]⟩ : ByteArray)) ++ t273) ++ (⟨#[44]⟩ : ByteArray)) ++ t274).size + 1 ≤ 9223372036854775807
 rotate_left
 ·rw [if_neg c20] at H
  exact absurd H (by simp)
 rw [if_pos c20] at H
 have c20b0 := eq_true c20
 have c20b1 : decide (((((((⟨#[97, 98, 99, 100]⟩ : ByteArray).extract (((rd_T68 l0_1 a1).f0) : Int).toNat ((wrap64 (((rd_T68 l0_1 a1).f0) + 1)) : Int).toNat) ++ (⟨#[40]⟩ : ByteArray)) ++ t273) ++ (⟨#[44]⟩ : ByteArray)) ++ t274).size + 1 ≤ 9223372036854775807) = true := decide_eq_true c20
 try have c20b2 : (9223372036854775807 < ((((((⟨#[97, 98, 99, 100]⟩ : ByteArray).extract (((rd_T68 l0_1 a1).f0) : Int).toNat ((wrap64 (((rd_T68 l0_1 a1).f0) + 1)) : Int).toNat) ++ (⟨#[40]⟩ : ByteArray)) ++ t273) ++ (⟨#[44]⟩ : ByteArray)) ++ t274).size + 1) = False := eq_false (Nat.not_lt.2 c20)
 try (have c20b3 := c20b2; simp only [ByteArray.size_append', show (⟨#[40]⟩ : ByteArray).size = 1 from rfl, show (⟨#[44]⟩ : ByteArray).size = 1 from rfl, show (⟨#[97, 98, 99, 100]⟩ : ByteArray).size = 4 from rfl, ByteArray.size_extract, Nat.min_eq_left (show ((wrap64 (((rd_T68 l0_1 a1).f0) + 1)) : Int).toNat ≤ 4 by omega)] at c20b3)
 obtain rfl := Option.some.inj H
 go_enter Tryd.func33, Tryd.ntmps33
 try go_wp2_with (first | ((with_reducible refine gate_dst (N := 2) rfl ?_); refine box_event ?hg (N := 2) ?hd (cs := #[.int .i64 a0_0, .slice A0_1 l0_1.length c0_1]) (t := 27) ?hr ?_; (case hd => rfl); (case hg => rfl); (case hr => first | (go_simp; done) | (go_simp; rfl)); intro gb269 hg w21 hbox hb; have BK269 := mk_ (hbox); have GW269 := mk_ (gb_ hg HB.out); have GE269 := mk_ (gb_ hg HB.out); replace HB := mk_ (below_step (below_at HB.out) hb); clear hb hbox hg; have hcz22_0 := blk_cell BK269.out 0; have hcz22_1 := blk_cell BK269.out 1; have hfz22_0 := blk_frozen BK269.out 0; have hfz22_1 := blk_frozen BK269.out 1; have p271 : 0 ≤ (a1 : Int) := oa_; have q271 : a1 < (l0_1.length : Int) := oa_; obtain ⟨ad271, e271, hx271_0, hx271_1, hx271_2⟩ := at_T68 HR0_1.out a1 p271 q271; cases e271; replace hx271_0 := cel HB.out hx271_0; replace hx271_1 := cel HB.out hx271_1; replace hx271_2 := cel HB.out hx271_2; replace p271 := eq_true p271; replace q271 := eq_true q271) | ((with_reducible refine gate_dst (N := 5) rfl ?_); refine box_event ?hg (N := 5) ?hd (cs := #[.int .i64 0, .int .i64 0, .int .i64 0]) (t := 68) ?hr ?_; (case hd => rfl); (case hg => rfl); (case hr => first | (go_simp; done) | (go_simp; rfl)); intro gb272 hg w23 hbox hb; have BK272 := mk_ (hbox); have GW272 := mk_ ((by rw [hg]; exact (below_size (at_ HB.out)) : w.heap.size ≤ gb272)); have GE272 := mk_ ((by rw [hg]; exact (below_size (at_ HB.out)) : w.heap.size ≤ gb272)); replace HB := mk_ (below_step (at_ HB.out) hb); have NB269_272 := mk_ ((by rw [hg]; exact Nat.ne_of_lt (blk_lt (g := gb269) (o := .cells #[.int .i64 a0_0, .slice (some ad271) l0_1.length c0_1] 27 (0, 0)) (bk_ BK269.out)) : gb269 ≠ gb272)); have NB272_269 := mk_ ((by rw [hg]; exact Nat.ne_of_gt (blk_lt (g := gb269) (o := .cells #[.int .i64 a0_0, .slice (some ad271) l0_1.length c0_1] 27 (0, 0)) (bk_ BK269.out)) : gb272 ≠ gb269)); replace BK269 := mk_ (blk_at BK269.out hb); clear hb hbox hg; have hnb24 := NB272_269.out; have hnc24 := NB269_272.out; have hcz25_0 := blk_cell BK272.out 0; have hcz25_1 := blk_cell BK272.out 1; have hcz25_2 := blk_cell BK272.out 2; have hfz25_0 := blk_frozen BK272.out 0; have hfz25_1 := blk_frozen BK272.out 1; have hfz25_2 := blk_frozen BK272.out 2))
 have n0_ : Aside0 ((((w23.setCell ⟨gb272, 0, none⟩ (.int .i64 ((rd_T68 l0_1 a1).f0))).setCell ⟨gb272, 1, none⟩ (.int .i64 ((rd_T68 l0_1 a1).f1))).setCell ⟨gb272, 2, none⟩ (.int .i64 ((rd_T68 l0_1 a1).f2))).heap[gb269]? = some (.cells #[.int .i64 a0_0, .slice (some ad271) l0_1.length c0_1] 27 (0, 0))) := ⟨by (with_reducible repeat (first | refine blk_drewN ?_ _ | refine blk_drew ?_ | refine blk_alloc ?_ _)); refine blk_far ?_ NB269_272.out _; (with_reducible repeat (first | refine blk_drewN ?_ _ | refine blk_drew ?_ | refine blk_alloc ?_ _)); refine blk_far ?_ NB269_272.out _; (with_reducible repeat (first | refine blk_drewN ?_ _ | refine blk_drew ?_ | refine blk_alloc ?_ _)); refine blk_far ?_ NB269_272.out _; (with_reducible repeat (first | refine blk_drewN ?_ _ | refine blk_drew ?_ | refine blk_alloc ?_ _)); exact BK269.out⟩
 have n1_ : Aside0 ((((w23.setCell ⟨gb272, 0, none⟩ (.int .i64 ((rd_T68 l0_1 a1).f0))).setCell ⟨gb272, 1, none⟩ (.int .i64 ((rd_T68 l0_1 a1).f1))).setCell ⟨gb272, 2, none⟩ (.int .i64 ((rd_T68 l0_1 a1).f2))).heap[gb272]? = some (.cells #[.int .i64 ((rd_T68 l0_1 a1).f0), .int .i64 ((rd_T68 l0_1 a1).f1), .int .i64 ((rd_T68 l0_1 a1).f2)] 68 (0, 0))) := ⟨by (with_reducible repeat (first | refine blk_drewN ?_ _ | refine blk_drew ?_ | refine blk_alloc ?_ _)); refine blk_put (cs := #[.int .i64 ((rd_T68 l0_1 a1).f0), .int .i64 ((rd_T68 l0_1 a1).f1), .int .i64 0]) ?_ 2 _ rfl; (with_reducible repeat (first | refine blk_drewN ?_ _ | refine blk_drew ?_ | refine blk_alloc ?_ _)); refine blk_put (cs := #[.int .i64 ((rd_T68 l0_1 a1).f0), .int .i64 0, .int .i64 0]) ?_ 1 _ rfl; (with_reducible repeat (first | refine blk_drewN ?_ _ | refine blk_drew ?_ | refine blk_alloc ?_ _)); refine blk_put (cs := #[.int .i64 0, .int .i64 0, .int .i64 0]) ?_ 0 _ rfl; (with_reducible repeat (first | refine blk_drewN ?_ _ | refine blk_drew ?_ | refine blk_alloc ?_ _)); exact BK272.out⟩
 have n2_ : Aside0 (Below w.heap.size w (((w23.setCell ⟨gb272, 0, none⟩ (.int .i64 ((rd_T68 l0_1 a1).f0))).setCell ⟨gb272, 1, none⟩ (.int .i64 ((rd_T68 l0_1 a1).f1))).setCell ⟨gb272, 2, none⟩ (.int .i64 ((rd_T68 l0_1 a1).f2)))) := ⟨at_ HB.out⟩
 (try clear BK269)
 (try clear BK272)
 (try clear HB)
 generalize (((w23.setCell ⟨gb272, 0, none⟩ (.int .i64 ((rd_T68 l0_1 a1).f0))).setCell ⟨gb272, 1, none⟩ (.int .i64 ((rd_T68 l0_1 a1).f1))).setCell ⟨gb272, 2, none⟩ (.int .i64 ((rd_T68 l0_1 a1).f2))) = w26 at n0_ n1_ n2_ ⊢
 have BK269 := n0_
 have BK272 := n1_
 have HB := n2_
 clear n0_ n1_ n2_
 replace BK269 := mk_ (blk_drew BK269.out)
 replace BK272 := mk_ (blk_drew BK272.out)
 replace HB := mk_ (below_drew1 HB.out)
 refine start_ (n := 20) (S := fun w' => w'.cell? ⟨gb272, 0, none⟩ = some (.int .i64 ((rd_T68 l0_1 a1).f0)) ∧ w'.cell? ⟨gb272, 1, none⟩ = some (.int .i64 ((rd_T68 l0_1 a1).f1)) ∧ w'.cell? ⟨gb272, 2, none⟩ = some (.int .i64 ((rd_T68 l0_1 a1).f2)) ∧ w'.cell? ⟨gb269, 0, none⟩ = some (.int .i64 a0_0) ∧ w'.cell? ⟨gb269, 1, none⟩ = some (.slice (some ad271) l0_1.length c0_1)) (ds := []) #[false, false, false, false, false, false, false, false, false, false, false, false, false, false, false, false, false, false, false, false] (by kernel_rfl) rfl rfl ⟨(blk_cell BK272.out 0).trans rfl, (blk_cell BK272.out 1).trans rfl, (blk_cell BK272.out 2).trans rfl, (blk_cell BK269.out 0).trans rfl, (blk_cell BK269.out 1).trans rfl⟩ (fun hHeld => ?_); refine with_tabW spec_l11Text.tab6 spec_l11Text.bits6 (fun HT_ HW_ => ?_)
 generalize w26.drew = w27 at BK269 BK272 HB hHeld ⊢
 refine pure_ (i := 0) (N := some 18) (v := ?_) (a' := ?_) #[true, false, false, false, false, false, false, false, false, false, false, false, false, false, false, false, false, false, false, false] rfl rfl (any_of HT_.out (by kernel_rfl)) (fun _ _ _ h => h) (Or.inl ⟨by rfl, ?_⟩) ?_ ?_
 rotate_left
 ·intro w'
  go_simp
  with_reducible rfl
 rotate_left
 ·simp only [Act.put, z0_, z1_, z2_, i64_w, i32_w]
  rfl
 refine pure_ (i := 2) (N := some 20) (v := ?_) (a' := ?_) #[true, false, true, false, false, false, false, false, false, false, false, false, false, false, false, false, false, false, false, false] rfl rfl (any_of HT_.out (by kernel_rfl)) (fun _ _ _ h => h) (Or.inl ⟨by rfl, ?_⟩) ?_ ?_
 rotate_left
 ·intro w'
  go_simp
  with_reducible rfl
 rotate_left
 ·simp only [Act.put, z0_, z1_, z2_, i64_w, i32_w]
  rfl
 refine pure_ (i := 8) (N := some 26) (v := ?_) (a' := ?_) #[true, false, true, false, false, false, false, false, true, false, false, false, false, false, false, false, false, false, false, false] rfl rfl (any_of HT_.out (by kernel_rfl)) (fun _ _ _ h => h) (Or.inl ⟨by rfl, ?_⟩) ?_ ?_
 rotate_left
 ·intro w'
  go_simp
  with_reducible rfl
 rotate_left
 ·simp only [Act.put, z0_, z1_, z2_, i64_w, i32_w]
  rfl
 refine pure_ (i := 14) (N := some 32) (v := ?_) (a' := ?_) #[true, false, true, false, false, false, false, false, true, false, false, false, false, false, true, false, false, false, false, false] rfl rfl (any_of HT_.out (by kernel_rfl)) (fun _ _ _ h => h) (Or.inl ⟨by rfl, ?_⟩) ?_ ?_
 rotate_left
 ·intro w'
  go_simp
  with_reducible rfl
 rotate_left
 ·simp only [Act.put, z0_, z1_, z2_, i64_w, i32_w]
  rfl
 refine take_ (i := 1) (N := some 19) (v := ?_) (a' := ?_) #[true, true, true, false, false, false, false, false, true, false, false, false, false, false, true, false, false, false, false, false] rfl rfl (take_ofW HT_.out HW_.out (by kernel_rfl)) (fun _ _ _ h => h) (Or.inl ⟨by rfl, ?_⟩) hHeld ?_ ?_
 rotate_left
 ·rintro w' ⟨s0, s1, s2, s3, s4⟩
  go_simp
  with_reducible rfl
 rotate_left
 ·simp only [Act.put, z0_, z1_, z2_, i64_w, i32_w]
  rfl
 refine take_ (i := 3) (N := some 21) (v := ?_) (a' := ?_) #[true, true, true, true, false, false, false, false, true, false, false, false, false, false, true, false, false, false, false, false] rfl rfl (take_ofW HT_.out HW_.out (by kernel_rfl)) (fun _ _ _ h => h) (Or.inl ⟨by rfl, ?_⟩) hHeld ?_ ?_
 rotate_left
 ·rintro w' ⟨s0, s1, s2, s3, s4⟩
  go_simp
  with_reducible rfl
 rotate_left
 ·simp only [Act.put, z0_, z1_, z2_, i64_w, i32_w]
  rfl
 refine pure_ (i := 4) (N := some 22) (v := ?_) (a' := ?_) #[true, true, true, true, true, false, false, false, true, false, false, false, false, false, true, false, false, false, false, false] rfl rfl (any_of HT_.out (by kernel_rfl)) (fun _ _ _ h => h) (Or.inl ⟨by rfl, ?_⟩) ?_ ?_
 rotate_left
 ·intro w'
  go_simp
  with_reducible rfl
 rotate_left
 ·simp only [Act.put, z0_, z1_, z2_, i64_w, i32_w]
  rfl
 refine pure_ (i := 5) (N := some 23) (v := ?_) (a' := ?_) #[true, true, true, true, true, true, false, false, true, false, false, false, false, false, true, false, false, false, false, false] rfl rfl (any_of HT_.out (by kernel_rfl)) (fun _ _ _ h => h) (Or.inl ⟨by rfl, ?_⟩) ?_ ?_
 rotate_left
 ·intro w'
  go_simp
  with_reducible rfl
 rotate_left
 ·simp only [Act.put, z0_, z1_, z2_, i64_w, i32_w]
  rfl
 refine pure_ (i := 6) (N := some 24) (v := ?_) (a' := ?_) #[true, true, true, true, true, true, true, false, true, false, false, false, false, false, true, false, false, false, false, false] rfl rfl (any_of HT_.out (by kernel_rfl)) (fun _ _ _ h => h) (Or.inl ⟨by rfl, ?_⟩) ?_ ?_
 rotate_left
 ·intro w'
  go_simp
  with_reducible rfl
 rotate_left
 ·simp only [Act.put, z0_, z1_, z2_, i64_w, i32_w]
  rfl
 refine take_ (i := 7) (N := some 25) (v := ?_) (a' := ?_) #[true, true, true, true, true, true, true, true, true, false, false, false, false, false, true, false, false, false, false, false] rfl rfl (take_ofW HT_.out HW_.out (by kernel_rfl)) (fun _ _ _ h => h) (Or.inl ⟨by rfl, ?_⟩) hHeld ?_ ?_
 rotate_left
 ·rintro w' ⟨s0, s1, s2, s3, s4⟩
  go_simp
  with_reducible rfl
 rotate_left
 ·simp only [Act.put, z0_, z1_, z2_, i64_w, i32_w]
  rfl
 refine take_ (i := 9) (N := some 27) (v := ?_) (a' := ?_) #[true, true, true, true, true, true, true, true, true, true, false, false, false, false, true, false, false, false, false, false] rfl rfl (take_ofW HT_.out HW_.out (by kernel_rfl)) (fun _ _ _ h => h) (Or.inl ⟨by rfl, ?_⟩) hHeld ?_ ?_
 rotate_left
 ·rintro w' ⟨s0, s1, s2, s3, s4⟩
  go_simp
  with_reducible rfl
 rotate_left
 ·simp only [Act.put, z0_, z1_, z2_, i64_w, i32_w]
  rfl
 refine take_ (i := 13) (N := some 31) (v := ?_) (a' := ?_) #[true, true, true, true, true, true, true, true, true, true, false, false, false, true, true, false, false, false, false, false] rfl rfl (take_ofW HT_.out HW_.out (by kernel_rfl)) (fun _ _ _ h => h) (Or.inl ⟨by rfl, ?_⟩) hHeld ?_ ?_
 rotate_left
 ·rintro w' ⟨s0, s1, s2, s3, s4⟩
  go_simp
  with_reducible rfl
 rotate_left
 ·simp only [Act.put, z0_, z1_, z2_, i64_w, i32_w]
  rfl
 refine take_ (i := 15) (N := some 33) (v := ?_) (a' := ?_) #[true, true, true, true, true, true, true, true, true, true, false, false, false, true, true, true, false, false, false, false] rfl rfl (take_ofW HT_.out HW_.out (by kernel_rfl)) (fun _ _ _ h => h) (Or.inl ⟨by rfl, ?_⟩) hHeld ?_ ?_
 rotate_left
 ·rintro w' ⟨s0, s1, s2, s3, s4⟩
  go_simp
  with_reducible rfl
 rotate_left
 ·simp only [Act.put, z0_, z1_, z2_, i64_w, i32_w]
  rfl
 refine one_ (i := 10) (N := some 28) #[true, true, true, true, true, true, true, true, true, true, true, false, false, true, true, true, false, false, false, false] rfl rfl (one_of HT_.out (by kernel_rfl)) (by decide) (fun K hK => ?_)
 refine goes_ Tryd.func33 (by kernel_rfl) rfl #[.agg #[.int .i64 a0_0, .slice (some ad271) l0_1.length c0_1], .int .i64 ((rd_T68 l0_1 a1).f1)] (by rfl) rfl rfl gl_ ?_
 with_reducible refine (ih k (by omega) a0_0 _ _ l0_1 ((rd_T68 l0_1 a1).f1) t273 _ ?side1 ?side2 A15.out).mono ?_
 (case side1 => exact Kd.C_below (Kd.C_below HR0_1.out HB.out) lt_)
 (case side2 => exact HC0_1.out)
 rintro e w28 ⟨rfl, hb⟩
 refine ⟨_, rfl, ?_⟩
 replace BK269 := mk_ (blk_at BK269.out hb)
 replace BK272 := mk_ (blk_at BK272.out hb)
 replace HB := mk_ (below_step (at_ HB.out) hb)
 (try clear hb)
 (try clear hb2)
 (try clear hk)
 (try clear hi)
 refine hK.out _ _ ⟨(blk_cell BK272.out 0).trans rfl, (blk_cell BK272.out 1).trans rfl, (blk_cell BK272.out 2).trans rfl, (blk_cell BK269.out 0).trans rfl, (blk_cell BK269.out 1).trans rfl⟩ (fun hHeld => ?_)
 clear hK K
 refine norm_ (a' := ?_) ?_ ?_
 rotate_left
 ·show Act.put _ (some 28) _ = _
  simp only [Act.put, z0_, z1_, z2_, i64_w, i32_w]
  rfl
 refine pure_ (i := 11) (N := some 29) (v := ?_) (a' := ?_) #[true, true, true, true, true, true, true, true, true, true, true, true, false, true, true, true, false, false, false, false] rfl rfl (any_of HT_.out (by kernel_rfl)) (fun _ _ _ h => h) (Or.inl ⟨by rfl, ?_⟩) ?_ ?_
 rotate_left
 ·intro w'
  go_simp
  with_reducible rfl
 rotate_left
 ·simp only [Act.put, z0_, z1_, z2_, i64_w, i32_w]
  rfl
 refine pure_ (i := 12) (N := some 30) (v := ?_) (a' := ?_) #[true, true, true, true, true, true, true, true, true, true, true, true, true, true, true, true, false, false, false, false] rfl rfl (any_of HT_.out (by kernel_rfl)) (fun _ _ _ h => h) (Or.inl ⟨by rfl, ?_⟩) ?_ ?_
 rotate_left
 ·intro w'
  go_simp
  with_reducible rfl
 rotate_left
 ·simp only [Act.put, z0_, z1_, z2_, i64_w, i32_w]
  rfl
 refine one_ (i := 16) (N := some 34) #[true, true, true, true, true, true, true, true, true, true, true, true, true, true, true, true, true, false, false, false] rfl rfl (one_of HT_.out (by kernel_rfl)) (by decide) (fun K hK => ?_)
 refine goes_ Tryd.func33 (by kernel_rfl) rfl #[.agg #[.int .i64 a0_0, .slice (some ad271) l0_1.length c0_1], .int .i64 ((rd_T68 l0_1 a1).f2)] (by rfl) rfl rfl gl_ ?_
 with_reducible refine (ih k (by omega) a0_0 _ _ l0_1 ((rd_T68 l0_1 a1).f2) t274 _ ?side1 ?side2 A18.out).mono ?_
 (case side1 => exact Kd.C_below (Kd.C_below HR0_1.out HB.out) lt_)
 (case side2 => exact HC0_1.out)
 rintro e w29 ⟨rfl, hb⟩
 refine ⟨_, rfl, ?_⟩
 replace BK269 := mk_ (blk_at BK269.out hb)
 replace BK272 := mk_ (blk_at BK272.out hb)
 replace HB := mk_ (below_step (at_ HB.out) hb)
 (try clear hb)
 (try clear hb2)
 (try clear hk)
 (try clear hi)
 refine hK.out _ _ ⟨(blk_cell BK272.out 0).trans rfl, (blk_cell BK272.out 1).trans rfl, (blk_cell BK272.out 2).trans rfl, (blk_cell BK269.out 0).trans rfl, (blk_cell BK269.out 1).trans rfl⟩ (fun hHeld => ?_)
 clear hK K
 refine norm_ (a' := ?_) ?_ ?_
 rotate_left
 ·show Act.put _ (some 34) _ = _
  simp only [Act.put, z0_, z1_, z2_, i64_w, i32_w]
  rfl
 refine pure_ (i := 17) (N := some 35) (v := ?_) (a' := ?_) #[true, true, true, true, true, true, true, true, true, true, true, true, true, true, true, true, true, true, false, false] rfl rfl (any_of HT_.out (by kernel_rfl)) (fun _ _ _ h => h) (Or.inl ⟨by rfl, ?_⟩) ?_ ?_
 rotate_left
 ·intro w'
  go_simp
  with_reducible rfl
 rotate_left
 ·simp only [Act.put, z0_, z1_, z2_, i64_w, i32_w]
  rfl
 refine pure_ (i := 18) (N := some 36) (v := ?_) (a' := ?_) #[true, true, true, true, true, true, true, true, true, true, true, true, true, true, true, true, true, true, true, false] rfl rfl (any_of HT_.out (by kernel_rfl)) (fun _ _ _ h => h) (Or.inl ⟨by rfl, ?_⟩) ?_ ?_
 rotate_left
 ·intro w'
  go_simp
  with_reducible rfl
 rotate_left
 ·simp only [Act.put, z0_, z1_, z2_, i64_w, i32_w]
  rfl
 refine pure_ (i := 19) (N := some 4) (v := ?_) (a' := ?_) #[true, true, true, true, true, true, true, true, true, true, true, true, true, true, true, true, true, true, true, true] rfl rfl (any_of HT_.out (by kernel_rfl)) (fun _ _ _ h => h) (Or.inl ⟨by rfl, ?_⟩) ?_ ?_
 rotate_left
 ·intro w'
  go_simp
  with_reducible rfl
 rotate_left
 ·simp only [Act.put, z0_, z1_, z2_, i64_w, i32_w]
  rfl
 refine done_ (done_of HT_.out (by kernel_rfl)) ?_
 try go_wp2
 go_ret
 exact ⟨er_, at_ HB.out⟩

/-! ### spec_ProofText: function 9 -/
def spec_ProofText.f (k : Nat) (a0 : Int) (l1 : List (S79)) (l2 : List (S82)) (a3_0 : Int) (l3_1 : List (S68)) : Option (ByteArray) := (spec_ProofOk.f k a0 l1 l2 a3_0 l3_1).bind fun t276 => (if t276 = true then ((spec_l11Text.f k a3_0 l3_1 a3_0).bind fun t277 => (some t277)) else (some (⟨#[]⟩ : ByteArray)))
theorem spec_ProofText.mono : ∀ a0 a1 a2 a3 a4 k, LeO (spec_ProofText.f k a0 a1 a2 a3 a4) (spec_ProofText.f (k + 1) a0 a1 a2 a3 a4) := by
 intro a0 a1 a2 a3 a4 k
 unfold spec_ProofText.f
 repeat' first
   | (with_reducible exact spec_ProofOk.mono _ _ _ _ _ _)
   | (with_reducible exact spec_l11Text.mono _ _ _ _)
   | (with_reducible exact LeO.refl _)
   | (with_reducible exact LeO.none _)
   | (with_reducible refine LeO.ite ?_ ?_)
   | (with_reducible refine LeO.bind ?_ (fun _ => ?_))
set_option maxHeartbeats 8000000 in
set_option maxRecDepth 100000 in
theorem spec_ProofText.calls (k : Nat) (a0 : Int) (A1 : Option Addr) (c1 : Nat) (l1 : List (S79)) (A2 : Option Addr) (c2 : Nat) (l2 : List (S82)) (a3_0 : Int) (A3_1 : Option Addr) (c3_1 : Nat) (l3_1 : List (S68)) (r : ByteArray) (w : World) (hr1 : Kd.C k79 w A1 l1.length l1) (hc1 : l1.length ≤ c1) (hr2 : Kd.C k82 w A2 l2.length l2) (hc2 : l2.length ≤ c2) (hr3_1 : Kd.C k68 w A3_1 l3_1.length l3_1) (hc3_1 : l3_1.length ≤ c3_1) (h : spec_ProofText.f k a0 l1 l2 a3_0 l3_1 = some r) :
  Calls Tryd.prog 9 #[.int .i64 a0, .slice A1 l1.length c1, .slice A2 l2.length c2, .agg #[.int .i64 a3_0, .slice A3_1 l3_1.length c3_1]] w fun e w' => e = .returned (.string r) ∧ Below w.heap.size w w' := by
 have hu27 := Tryd.underlying27
 have HR1 := mk_ hr1
 have HC1 := mk_ hc1
 clear hr1 hc1
 have HR2 := mk_ hr2
 have HC2 := mk_ hc2
 clear hr2 hc2
 have HR3_1 := mk_ hr3_1
 have HC3_1 := mk_ hc3_1
 clear hr3_1 hc3_1
 have HB := mk_ (Below.refl w.heap.size w)
 unfold spec_ProofText.f at h
 have H := h
 clear h
 replace H := Option.bind_eq_some_iff.mp H
 obtain ⟨t276, A50, H⟩ := H
 try dsimp only at H
 have A5 := mk_ A50
 clear A50
 by_cases c6 : t276 = true
 rotate_left
 ·replace c6 := Bool.eq_false_iff.mpr c6
  subst c6
  rw [if_neg (show ¬ (false = true) by decide)] at H
  obtain rfl := Option.some.inj H
  go_enter Tryd.func9, Tryd.ntmps9
  go_wp2_with (first | ((with_reducible refine gate_dst (N := 7) rfl ?_); refine box_event ?hg (N := 7) ?hd (cs := #[.int .i64 a3_0, .slice A3_1 l3_1.length c3_1]) (t := 27) ?hr ?_; (case hd => rfl); (case hg => rfl); (case hr => first | (go_simp; done) | (go_simp; rfl)); intro gb275 hg w13 hbox hb; have BK275 := mk_ (hbox); have GW275 := mk_ (gb_ hg HB.out); have GE275 := mk_ (gb_ hg HB.out); replace HB := mk_ (below_step (below_at HB.out) hb); clear hb hbox hg; have hcz14_0 := blk_cell BK275.out 0; have hcz14_1 := blk_cell BK275.out 1; have hfz14_0 := blk_frozen BK275.out 0; have hfz14_1 := blk_frozen BK275.out 1) | ((with_reducible refine gate_callee (f := 32) rfl ?_); refine goesL_ (some 13) rfl rfl Tryd.func32 (by kernel_rfl) rfl #[.int .i64 a0, .slice A1 l1.length c1, .slice A2 l2.length c2, .agg #[.int .i64 a3_0, .slice A3_1 l3_1.length c3_1]] rfl gl_ ?_; (with_reducible refine (spec_ProofOk.calls k a0 _ _ l1 _ _ l2 a3_0 _ _ l3_1 false _ ?side1 ?side2 ?side3 ?side4 ?side5 ?side6 A5.out).mono ?_); (case side1 => exact Kd.C_below (Kd.C_below HR1.out HB.out) lt_); (case side2 => exact HC1.out); (case side3 => exact Kd.C_below (Kd.C_below HR2.out HB.out) lt_); (case side4 => exact HC2.out); (case side5 => exact Kd.C_below (Kd.C_below HR3_1.out HB.out) lt_); (case side6 => exact HC3_1.out); rintro e w15 ⟨rfl, hb⟩; refine ⟨_, rfl, ?_⟩; replace HB := mk_ (below_step (at_ HB.out) hb); (try clear BK275); (try clear hb); (try clear hb2); (try clear hk); (try clear hi)))
  go_ret
  exact ⟨er_, at_ HB.out⟩
 subst c6
 rw [if_pos rfl] at H
 replace H := Option.bind_eq_some_iff.mp H
 obtain ⟨t277, A70, H⟩ := H
 replace H : (some t277) = some r := H
 have A7 := mk_ A70
 clear A70
 obtain rfl := Option.some.inj H
 go_enter Tryd.func9, Tryd.ntmps9
 go_wp2_with (first | ((with_reducible refine gate_dst (N := 7) rfl ?_); refine box_event ?hg (N := 7) ?hd (cs := #[.int .i64 a3_0, .slice A3_1 l3_1.length c3_1]) (t := 27) ?hr ?_; (case hd => rfl); (case hg => rfl); (case hr => first | (go_simp; done) | (go_simp; rfl)); intro gb275 hg w8 hbox hb; have BK275 := mk_ (hbox); have GW275 := mk_ (gb_ hg HB.out); have GE275 := mk_ (gb_ hg HB.out); replace HB := mk_ (below_step (below_at HB.out) hb); clear hb hbox hg; have hcz9_0 := blk_cell BK275.out 0; have hcz9_1 := blk_cell BK275.out 1; have hfz9_0 := blk_frozen BK275.out 0; have hfz9_1 := blk_frozen BK275.out 1) | ((with_reducible refine gate_callee (f := 32) rfl ?_); refine goesL_ (some 13) rfl rfl Tryd.func32 (by kernel_rfl) rfl #[.int .i64 a0, .slice A1 l1.length c1, .slice A2 l2.length c2, .agg #[.int .i64 a3_0, .slice A3_1 l3_1.length c3_1]] rfl gl_ ?_; (with_reducible refine (spec_ProofOk.calls k a0 _ _ l1 _ _ l2 a3_0 _ _ l3_1 true _ ?side1 ?side2 ?side3 ?side4 ?side5 ?side6 A5.out).mono ?_); (case side1 => exact Kd.C_below (Kd.C_below HR1.out HB.out) lt_); (case side2 => exact HC1.out); (case side3 => exact Kd.C_below (Kd.C_below HR2.out HB.out) lt_); (case side4 => exact HC2.out); (case side5 => exact Kd.C_below (Kd.C_below HR3_1.out HB.out) lt_); (case side6 => exact HC3_1.out); rintro e w10 ⟨rfl, hb⟩; refine ⟨_, rfl, ?_⟩; replace BK275 := mk_ (blk_at BK275.out hb); replace HB := mk_ (below_step (at_ HB.out) hb); (try clear hb); (try clear hb2); (try clear hk); (try clear hi); have hcz11_0 := blk_cell BK275.out 0; have hcz11_1 := blk_cell BK275.out 1; have hfz11_0 := blk_frozen BK275.out 0; have hfz11_1 := blk_frozen BK275.out 1) | ((with_reducible refine gate_callee (f := 33) rfl ?_); refine goesL_ (some 18) rfl rfl Tryd.func33 (by kernel_rfl) rfl #[.agg #[.int .i64 a3_0, .slice A3_1 l3_1.length c3_1], .int .i64 a3_0] rfl gl_ ?_; (with_reducible refine (spec_l11Text.calls k a3_0 _ _ l3_1 a3_0 t277 _ ?side1 ?side2 A7.out).mono ?_); (case side1 => exact Kd.C_below (Kd.C_below HR3_1.out HB.out) lt_); (case side2 => exact HC3_1.out); rintro e w12 ⟨rfl, hb⟩; refine ⟨_, rfl, ?_⟩; replace HB := mk_ (below_step (at_ HB.out) hb); (try clear BK275); (try clear hb); (try clear hb2); (try clear hk); (try clear hi)))
 go_ret
 exact ⟨er_, at_ HB.out⟩

/-! ### laws_szMarkS: function 14 -/
def laws_szMarkS.f (l0 : List (S84)) (a1 : Int) : Option (Int) := if (wrap64 (a1 - (l0.length : Int))) < 0 then (some (-1)) else (some (wrap64 (a1 - (l0.length : Int))))
set_option maxHeartbeats 8000000 in
set_option maxRecDepth 100000 in
theorem laws_szMarkS.calls (A0 : Option Addr) (c0 : Nat) (l0 : List (S84)) (a1 : Int) (r : Int) (w : World) (hr0 : Kd.C k84 w A0 l0.length l0) (hc0 : l0.length ≤ c0) (h : laws_szMarkS.f l0 a1 = some r) :
  Calls Tryd.prog 14 #[.slice A0 l0.length c0, .int .i64 a1] w fun e w' => e = .returned (.int .i64 r) ∧ Drawn0 w w' := by
 have HR0 := mk_ hr0
 have HC0 := mk_ hc0
 clear hr0 hc0
 have H : (if (wrap64 (a1 - (l0.length : Int))) < 0 then (some (-1)) else (some (wrap64 (a1 - (l0.length : Int))))) = some r := h
 clear h
 by_cases c3 : (wrap64 (a1 - (l0.length : Int))) < 0
 ·rw [if_pos c3] at H
  have c3b0 : decide ((wrap64 (a1 - (l0.length : Int))) < 0) = true := decide_eq_true c3
  clear c3
  obtain rfl := Option.some.inj H
  go_enter Tryd.func14, Tryd.ntmps14
  go_wp2
  go_ret
  exact ⟨by first | rfl | (simp; done) | (simp [*]; done), by repeat (first | exact Drawn0.refl _ | apply Drawn0.step)⟩
 rw [if_neg c3] at H
 have c3b0 : decide ((wrap64 (a1 - (l0.length : Int))) < 0) = false := decide_eq_false c3
 clear c3
 obtain rfl := Option.some.inj H
 go_enter Tryd.func14, Tryd.ntmps14
 go_wp2
 go_ret
 exact ⟨by first | rfl | (simp; done) | (simp [*]; done), by repeat (first | exact Drawn0.refl _ | apply Drawn0.step)⟩

/-! ### laws_szClaim: function 41 -/
def laws_szClaim.f (a0_0 : Int) (l0_1 : List (S84)) (a1 : Int) : Option (Int) := (laws_szMarkS.f l0_1 a1).bind fun t279 => (if t279 < 0 then (some (-1)) else (some t279))
set_option maxHeartbeats 8000000 in
set_option maxRecDepth 100000 in
theorem laws_szClaim.calls (a0_0 : Int) (A0_1 : Option Addr) (c0_1 : Nat) (l0_1 : List (S84)) (a1 : Int) (r : Int) (w : World) (hr0_1 : Kd.C k84 w A0_1 l0_1.length l0_1) (hc0_1 : l0_1.length ≤ c0_1) (h : laws_szClaim.f a0_0 l0_1 a1 = some r) :
  Calls Tryd.prog 41 #[.agg #[.int .i64 a0_0, .slice A0_1 l0_1.length c0_1], .int .i64 a1] w fun e w' => e = .returned (.int .i64 r) ∧ Below w.heap.size w w' := by
 have hu76 := Tryd.underlying76
 have HR0_1 := mk_ hr0_1
 have HC0_1 := mk_ hc0_1
 clear hr0_1 hc0_1
 have HB := mk_ (Below.refl w.heap.size w)
 have H : ((laws_szMarkS.f l0_1 a1).bind fun t279 => (if t279 < 0 then (some (-1)) else (some t279))) = some r := h
 clear h
 replace H := Option.bind_eq_some_iff.mp H
 obtain ⟨t279, A30, H⟩ := H
 try dsimp only at H
 have A3 := mk_ A30
 clear A30
 by_cases c4 : t279 < 0
 ·rw [if_pos c4] at H
  have c4b0 : decide (t279 < 0) = true := decide_eq_true c4
  clear c4
  obtain rfl := Option.some.inj H
  go_enter Tryd.func41, Tryd.ntmps41
  go_wp2_with (first | ((with_reducible refine gate_dst (N := 2) rfl ?_); refine box_event ?hg (N := 2) ?hd (cs := #[.int .i64 a0_0, .slice A0_1 l0_1.length c0_1]) (t := 76) ?hr ?_; (case hd => rfl); (case hg => rfl); (case hr => first | (go_simp; done) | (go_simp; rfl)); intro gb278 hg w5 hbox hb; have BK278 := mk_ (hbox); have GW278 := mk_ (gb_ hg HB.out); have GE278 := mk_ (gb_ hg HB.out); replace HB := mk_ (below_step (below_at HB.out) hb); clear hb hbox hg; have hcz6_0 := blk_cell BK278.out 0; have hcz6_1 := blk_cell BK278.out 1; have hfz6_0 := blk_frozen BK278.out 0; have hfz6_1 := blk_frozen BK278.out 1) | ((with_reducible refine gate_callee (f := 14) rfl ?_); refine goesL_ (some 8) rfl rfl Tryd.func14 (by kernel_rfl) rfl #[.slice A0_1 l0_1.length c0_1, .int .i64 a1] rfl gl_ ?_; (with_reducible refine (laws_szMarkS.calls _ _ l0_1 a1 t279 _ ?side1 ?side2 A3.out).mono ?_); (case side1 => exact Kd.C_below (Kd.C_below HR0_1.out HB.out) lt_); (case side2 => exact HC0_1.out); rintro e w' ⟨rfl, ⟨nd, rfl⟩⟩; refine ⟨_, rfl, ?_⟩))
  go_ret
  exact ⟨er_, at_ HB.out⟩
 rw [if_neg c4] at H
 have c4b0 : decide (t279 < 0) = false := decide_eq_false c4
 clear c4
 obtain rfl := Option.some.inj H
 go_enter Tryd.func41, Tryd.ntmps41
 go_wp2_with (first | ((with_reducible refine gate_dst (N := 2) rfl ?_); refine box_event ?hg (N := 2) ?hd (cs := #[.int .i64 a0_0, .slice A0_1 l0_1.length c0_1]) (t := 76) ?hr ?_; (case hd => rfl); (case hg => rfl); (case hr => first | (go_simp; done) | (go_simp; rfl)); intro gb278 hg w7 hbox hb; have BK278 := mk_ (hbox); have GW278 := mk_ (gb_ hg HB.out); have GE278 := mk_ (gb_ hg HB.out); replace HB := mk_ (below_step (below_at HB.out) hb); clear hb hbox hg; have hcz8_0 := blk_cell BK278.out 0; have hcz8_1 := blk_cell BK278.out 1; have hfz8_0 := blk_frozen BK278.out 0; have hfz8_1 := blk_frozen BK278.out 1) | ((with_reducible refine gate_callee (f := 14) rfl ?_); refine goesL_ (some 8) rfl rfl Tryd.func14 (by kernel_rfl) rfl #[.slice A0_1 l0_1.length c0_1, .int .i64 a1] rfl gl_ ?_; (with_reducible refine (laws_szMarkS.calls _ _ l0_1 a1 t279 _ ?side1 ?side2 A3.out).mono ?_); (case side1 => exact Kd.C_below (Kd.C_below HR0_1.out HB.out) lt_); (case side2 => exact HC0_1.out); rintro e w' ⟨rfl, ⟨nd, rfl⟩⟩; refine ⟨_, rfl, ?_⟩))
 go_ret
 exact ⟨er_, at_ HB.out⟩

end Go.Proofs.YtcaogllnbpmcgaaDoor.P

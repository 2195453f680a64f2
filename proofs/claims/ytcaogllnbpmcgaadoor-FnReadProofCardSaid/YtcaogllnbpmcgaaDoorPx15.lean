/- Go's functions come to just the answers of the Lean functions told here. -/
import Derived.Test.YtcaogllnbpmcgaaDoorPx11
import Derived.Test.YtcaogllnbpmcgaaDoorPx14
set_option maxHeartbeats 8000000
set_option maxRecDepth 100000
namespace Go.Proofs.YtcaogllnbpmcgaaDoor.P
open Go.RowKit Go.Proofs.YtcaogllnbpmcgaaDoorW.PrintWords Go.Proofs.YtcaogllnbpmcgaaDoorW.PrintLast Go.Proofs.YtcaogllnbpmcgaaDoorW.PrintMore
attribute [local go_sem] max2_int min2_int max_two min_two max_three min_three max_four min_four
set_option linter.unusedVariables false
set_option linter.unusedSimpArgs false
noncomputable def impl_ProofText.f (k : Nat) (a0 : Int) (l1 : List (S79)) (l2 : List (S82)) (a3_0 : Int) (l3_1 : List (S68)) : Option (ByteArray) := (impl_ProofOk.f a0 l1 l2 a3_0 l3_1).bind fun t170 => (if t170 = true then ((impl_caseText.f k a3_0 l3_1 a3_0).bind fun t171 => (some t171)) else (some (⟨#[]⟩ : ByteArray)))
theorem impl_ProofText.calls (k : Nat) (q : Int) (t : Option Addr) (u : Nat) (l1 : List (S79)) (v : Option Addr) (c2 : Nat) (j : List (S82)) (b : Int) (d : Option Addr) (g : Nat) (a : List (S68)) (r : ByteArray) (w : World) (z : Kd.C k79 w t l1.length l1) (A : l1.length ≤ u) (B : Kd.C k82 w v j.length j) (D : j.length ≤ c2) (o : Kd.C k68 w d a.length a) (p : a.length ≤ g) (h : impl_ProofText.f k q l1 j b a = some r) :
  Calls Tryd.prog 8 #[.int .i64 q, .slice t l1.length u, .slice v j.length c2, .agg #[.int .i64 b, .slice d a.length g]] w fun e w' => e = .returned (.string r) ∧ Below w.heap.size w w' := by
 have ad := Tryd.underlying27
 have E := mk_ z
 have G := mk_ A
 clear z A
 have I := mk_ B
 have J := mk_ D
 clear B D
 have l := mk_ o
 have m := mk_ p
 clear o p
 have HB := mk_ (Below.refl w.heap.size w)
 unfold impl_ProofText.f at h
 have H := h
 clear h
 revert H; refine bd_ fun ae Y H => ?_
 try dsimp only at H
 revert H; refine bi_ ?_ ?_ <;> rintro rfl H
 ·obtain rfl := Option.some.inj H
  go_enter Tryd.func8, Tryd.ntmps8
  go_wp2_with (first | (refine gx_ 7 #[.int .i64 b, .slice d a.length g] 27 ?_; intro x hg ag i hb; have c := mk_ (i); have n := gm_ hg HB.out; have y := n; replace HB := hs_ HB hb; clear hb i hg; obtain ⟨L, M, O, P⟩ := b2_ c) | (refine gc_ 10 (some 13) Tryd.func10 #[.int .i64 q, .slice t l1.length u, .slice v j.length c2, .agg #[.int .i64 b, .slice d a.length g]] ?_; (with_reducible refine mo_ (impl_ProofOk.calls q _ _ l1 _ _ j b _ _ a false _ ?side1 ?side2 ?side3 ?side4 ?side5 ?side6 Y.out) ?_); (case side1 => exact Kd.C_below (Kd.C_below E.out HB.out) lt_); (case side2 => exact G.out); (case side3 => exact Kd.C_below (Kd.C_below I.out HB.out) lt_); (case side4 => exact J.out); (case side5 => exact Kd.C_below (Kd.C_below l.out HB.out) lt_); (case side6 => exact m.out); intro ah hb; replace HB := ht_ HB hb; (try clear c); (try clear hb)))
  go_ret
  exact ⟨er_, at_ HB.out⟩
 replace H := Option.bind_eq_some_iff.mp H
 obtain ⟨s, K, H⟩ := H
 replace H : (some s) = some r := H
 have A7 := mk_ K
 clear K
 obtain rfl := Option.some.inj H
 go_enter Tryd.func8, Tryd.ntmps8
 go_wp2_with (first | (refine gx_ 7 #[.int .i64 b, .slice d a.length g] 27 ?_; intro x hg w8 i hb; have c := mk_ (i); have n := gm_ hg HB.out; have y := n; replace HB := hs_ HB hb; clear hb i hg; obtain ⟨Z, aa, ab, ac⟩ := b2_ c) | (refine gc_ 10 (some 13) Tryd.func10 #[.int .i64 q, .slice t l1.length u, .slice v j.length c2, .agg #[.int .i64 b, .slice d a.length g]] ?_; (with_reducible refine mo_ (impl_ProofOk.calls q _ _ l1 _ _ j b _ _ a true _ ?side1 ?side2 ?side3 ?side4 ?side5 ?side6 Y.out) ?_); (case side1 => exact Kd.C_below (Kd.C_below E.out HB.out) lt_); (case side2 => exact G.out); (case side3 => exact Kd.C_below (Kd.C_below I.out HB.out) lt_); (case side4 => exact J.out); (case side5 => exact Kd.C_below (Kd.C_below l.out HB.out) lt_); (case side6 => exact m.out); intro ai hb; replace c := mk_ (blk_at c.out hb); replace HB := ht_ HB hb; (try clear hb); obtain ⟨T, U, W, X⟩ := b2_ c) | (refine gc_ 31 (some 18) Tryd.func31 #[.agg #[.int .i64 b, .slice d a.length g], .int .i64 b] ?_; (with_reducible refine mo_ (impl_caseText.calls k b _ _ a b s _ ?side1 ?side2 A7.out) ?_); (case side1 => exact Kd.C_below (Kd.C_below l.out HB.out) lt_); (case side2 => exact m.out); intro aj hb; replace HB := ht_ HB hb; (try clear c); (try clear hb)))
 go_ret
 exact ⟨er_, at_ HB.out⟩
def impl_WorldOk.f (a0 : Int) (a1 : Int) : Option (Bool) := (impl_peopleOk.f a0).bind fun t172 => (if t172 = true then (if a1 ≥ 0 then (if 0 ≤ a0 then (some (decide (a1 < (shl .i64 1 a0)))) else (none)) else (some false)) else (some false))
theorem impl_WorldOk.calls (a : Int) (k : Int) (r : Bool) (w : World) (h : impl_WorldOk.f a k = some r) :
  Calls Tryd.prog 39 #[.int .i64 a, .int .i64 k] w fun e w' => e = .returned (.bool r) ∧ Drawn0 w w' := by
 unfold impl_WorldOk.f at h
 have H := h
 clear h
 revert H; refine bd_ fun p i H => ?_
 try dsimp only at H
 revert H; refine bi_ ?_ ?_ <;> rintro rfl H
 ·obtain rfl := Option.some.inj H
  go_enter Tryd.func39, Tryd.ntmps39
  go_wp2_with (first | (refine gc_ 64 (some 6) Tryd.func64 #[.int .i64 a] ?_; (with_reducible refine (impl_peopleOk.calls a false _ i.out).mono ?_); rintro e w' ⟨rfl, ⟨nd, rfl⟩⟩; refine ⟨_, rfl, ?_⟩))
  go_ret
  exact ⟨sm_, by repeat (first | exact Drawn0.refl _ | apply Drawn0.step)⟩
 revert H; refine ti_ (df_e fun j H => ?_) (dt_e fun j H => ?_)
 ·obtain rfl := Option.some.inj H
  go_enter Tryd.func39, Tryd.ntmps39
  go_wp2_with (first | (refine gc_ 64 (some 6) Tryd.func64 #[.int .i64 a] ?_; (with_reducible refine (impl_peopleOk.calls a true _ i.out).mono ?_); rintro e w' ⟨rfl, ⟨nd, rfl⟩⟩; refine ⟨_, rfl, ?_⟩))
  go_ret
  exact ⟨sm_, by repeat (first | exact Drawn0.refl _ | apply Drawn0.step)⟩
 revert H; refine g_ (et_ fun q s H => ?_)
 obtain ⟨c, b⟩ : ∃ j_ : Int, (shl .i64 1 a) = j_ := ⟨_, rfl⟩
 first | rw [b] at H | simp only [b] at H
 (try rw [b] at i)
 have d : (IntKind.i64.wrap (1 * 2 ^ min a.toNat 64)) = c := b
 have g : a ≤ 64 → (IntKind.i64.wrap (1 * 2 ^ a.toNat)) = c := shl_small b
 have l : (IntKind.i64.wrap (2 ^ min a.toNat 64)) = c := by have h_ := d; rw [Int.one_mul] at h_; exact h_
 have m : a ≤ 64 → (IntKind.i64.wrap (2 ^ a.toNat)) = c := fun hle_ => by have h_ := g hle_; rw [Int.one_mul] at h_; exact h_
 have n : (wrap64 (1 * 2 ^ min a.toNat 64)) = c := (i64_w _).symm.trans d
 have o : a ≤ 64 → (wrap64 (1 * 2 ^ a.toNat)) = c := fun h_ => (i64_w _).symm.trans (g h_)
 obtain rfl := Option.some.inj H
 go_enter Tryd.func39, Tryd.ntmps39
 go_wp2_with (first | (refine gc_ 64 (some 6) Tryd.func64 #[.int .i64 a] ?_; (with_reducible refine (impl_peopleOk.calls a true _ i.out).mono ?_); rintro e w' ⟨rfl, ⟨nd, rfl⟩⟩; refine ⟨_, rfl, ?_⟩))
 go_ret
 exact ⟨by first | rfl | (simp; done) | (simp only [← b] <;> (first | rfl | simp)) | (simp [*]; done), by repeat (first | exact Drawn0.refl _ | apply Drawn0.step)⟩
def laws_alive.f  : Option (Bool) := (impl_WorldOk.f 1 1).bind fun t173 => (if t173 = true then ((impl_WorldOk.f 1 2).bind fun t174 => (some (!t174))) else (some false))
theorem laws_alive.calls  (r : Bool) (w : World) (h : laws_alive.f  = some r) :
  Calls Tryd.prog 11 #[] w fun e w' => e = .returned (.bool r) ∧ Drawn0 w w' := by
 have H : ((impl_WorldOk.f 1 1).bind fun b => (if b = true then ((impl_WorldOk.f 1 2).bind fun a => (some (!a))) else (some false))) = some r := h
 clear h
 revert H; refine bd_ fun b d H => ?_
 try dsimp only at H
 revert H; refine ib_ ?_ ?_ <;> rintro rfl H
 ·replace H := Option.bind_eq_some_iff.mp H
  obtain ⟨a, c, H⟩ := H
  replace H : (some (!a)) = some r := H
  have g := mk_ c
  clear c
  obtain rfl := Option.some.inj H
  go_enter Tryd.func11, Tryd.ntmps11
  go_wp2_with (first | (refine gc_ 39 (some 1) Tryd.func39 #[.int .i64 1, .int .i64 1] ?_; (with_reducible refine (impl_WorldOk.calls 1 1 true _ d.out).mono ?_); rintro e w' ⟨rfl, ⟨nd, rfl⟩⟩; refine ⟨_, rfl, ?_⟩) | (go_at_call 39; (with_reducible refine (impl_WorldOk.calls 1 2 a _ g.out).mono ?_); rintro e w' ⟨rfl, ⟨nd, rfl⟩⟩))
  go_ret
  exact ⟨sm_, by repeat (first | exact Drawn0.refl _ | apply Drawn0.step)⟩
 obtain rfl := Option.some.inj H
 go_enter Tryd.func11, Tryd.ntmps11
 go_wp2_with (first | (refine gc_ 39 (some 1) Tryd.func39 #[.int .i64 1, .int .i64 1] ?_; (with_reducible refine (impl_WorldOk.calls 1 1 false _ d.out).mono ?_); rintro e w' ⟨rfl, ⟨nd, rfl⟩⟩; refine ⟨_, rfl, ?_⟩))
 go_ret
 exact ⟨sm_, by repeat (first | exact Drawn0.refl _ | apply Drawn0.step)⟩
def stringslite_HasPrefix.f (a0 : ByteArray) (a1 : ByteArray) : Option (Bool) := if (a0.size : Int) ≥ (a1.size : Int) then (if 0 ≤ (a1.size : Int) then (if (a1.size : Int) ≤ (a0.size : Int) then (some ((a0.extract 0 ((a1.size : Int) : Int).toNat).toList == a1.toList)) else (none)) else (none)) else (some false)
theorem stringslite_HasPrefix.calls (a : ByteArray) (b : ByteArray) (r : Bool) (w : World) (h : stringslite_HasPrefix.f a b = some r) :
  Calls Tryd.prog 95 #[.string a, .string b] w fun e w' => e = .returned (.bool r) ∧ Drawn0 w w' := by
 unfold stringslite_HasPrefix.f at h
 have H := h
 clear h
 revert H; refine ti_ (fun c3 H => ?_) fun c3 H => ?_
 ·have c : decide ((b.size : Int) ≤ (a.size : Int)) = false := decide_eq_false c3
  have d : decide (b.size ≤ a.size) = false := decide_eq_false (fun h => c3 (Int.ofNat_le.mpr h))
  clear c3
  obtain rfl := Option.some.inj H
  go_enter Tryd.func95, Tryd.ntmps95
  go_wp2
  go_ret
  exact ⟨sm_, by repeat (first | exact Drawn0.refl _ | apply Drawn0.step)⟩
 have c : decide ((b.size : Int) ≤ (a.size : Int)) = true := decide_eq_true c3
 have d : decide (b.size ≤ a.size) = true := decide_eq_true (Int.ofNat_le.mp c3)
 clear c3
 revert H; refine g_ (et_ fun g i => g_ (et_ fun j k H => ?_))
 obtain rfl := Option.some.inj H
 go_enter Tryd.func95, Tryd.ntmps95
 go_wp2
 go_ret
 exact ⟨sm_, by repeat (first | exact Drawn0.refl _ | apply Drawn0.step)⟩
def stringslite_CutPrefix.f (a0 : ByteArray) (a1 : ByteArray) : Option (ByteArray × Bool) := (stringslite_HasPrefix.f a0 a1).bind fun t175 => (if t175 = true then (if 0 ≤ (a1.size : Int) then (if (a1.size : Int) ≤ (a0.size : Int) then (some (a0.extract ((a1.size : Int) : Int).toNat a0.size, true)) else (none)) else (none)) else (some (a0, false)))
theorem stringslite_CutPrefix.calls (a : ByteArray) (b : ByteArray) (c : ByteArray) (d : Bool) (w : World) (h : stringslite_CutPrefix.f a b = some (c, d)) :
  Calls Tryd.prog 86 #[.string a, .string b] w fun e w' => e = .returned (.tuple #[.string c, .bool d]) ∧ Drawn0 w w' := by
 unfold stringslite_CutPrefix.f at h
 have H := h
 clear h
 revert H; refine bd_ fun i g H => ?_
 try dsimp only at H
 revert H; refine bi_ ?_ ?_ <;> rintro rfl H
 ·simp only [Option.some.injEq, Prod.mk.injEq] at H
  obtain ⟨rfl, rfl⟩ := H
  go_enter Tryd.func86, Tryd.ntmps86
  go_wp2_with (first | (refine gc_ 95 (some 8) Tryd.func95 #[.string a, .string b] ?_; (with_reducible refine (stringslite_HasPrefix.calls a b false _ g.out).mono ?_); rintro e w' ⟨rfl, ⟨nd, rfl⟩⟩; refine ⟨_, rfl, ?_⟩))
  go_ret2
  exact ⟨sm_, by repeat (first | exact Drawn0.refl _ | apply Drawn0.step)⟩
 revert H; refine g_ (et_ fun j k => g_ (et_ fun l m H => ?_))
 simp only [Option.some.injEq, Prod.mk.injEq] at H
 obtain ⟨rfl, rfl⟩ := H
 go_enter Tryd.func86, Tryd.ntmps86
 go_wp2_with (first | (refine gc_ 95 (some 8) Tryd.func95 #[.string a, .string b] ?_; (with_reducible refine (stringslite_HasPrefix.calls a b true _ g.out).mono ?_); rintro e w' ⟨rfl, ⟨nd, rfl⟩⟩; refine ⟨_, rfl, ?_⟩))
 go_ret2
 exact ⟨sm_, by repeat (first | exact Drawn0.refl _ | apply Drawn0.step)⟩
def strings_CutPrefix.f (a0 : ByteArray) (a1 : ByteArray) : Option (ByteArray × Bool) := (stringslite_CutPrefix.f a0 a1).bind fun bt176 => (some (bt176.1, bt176.2))
theorem strings_CutPrefix.calls (b : ByteArray) (c : ByteArray) (i : ByteArray) (j : Bool) (w : World) (h : strings_CutPrefix.f b c = some (i, j)) :
  Calls Tryd.prog 70 #[.string b, .string c] w fun e w' => e = .returned (.tuple #[.string i, .bool j]) ∧ Drawn0 w w' := by
 have H : ((stringslite_CutPrefix.f b c).bind fun a => (some (a.1, a.2))) = some (i, j) := h
 clear h
 replace H := Option.bind_eq_some_iff.mp H
 obtain ⟨⟨d, g⟩, k, H⟩ := H
 replace H : (some (d, g)) = some (i, j) := H
 have l := mk_ k
 clear k
 simp only [Option.some.injEq, Prod.mk.injEq] at H
 obtain ⟨rfl, rfl⟩ := H
 go_enter Tryd.func70, Tryd.ntmps70
 go_wp2_with (first | (refine gc_ 86 (some 8) Tryd.func86 #[.string b, .string c] ?_; (with_reducible refine (stringslite_CutPrefix.calls b c d g _ l.out).mono ?_); rintro e w' ⟨rfl, ⟨nd, rfl⟩⟩; refine ⟨_, rfl, ?_⟩))
 go_ret2
 exact ⟨sm_, by repeat (first | exact Drawn0.refl _ | apply Drawn0.step)⟩
-- NOT PRINTED: function 40 (impl_readCase)
end Go.Proofs.YtcaogllnbpmcgaaDoor.P

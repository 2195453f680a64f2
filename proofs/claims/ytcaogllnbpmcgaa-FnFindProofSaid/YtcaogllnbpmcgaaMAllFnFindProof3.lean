/- What the proof of this law needs besides: texts of ours, one behind the other. -/
import Derived.Test.YtcaogllnbpmcgaaMAllFnFindProof2
/- Proofs that are found: what grows, and that it is a proof. -/
set_option linter.unusedVariables false
set_option linter.unusedSimpArgs false
namespace Go.Proofs.Ytcaogllnbpmcgaa.Q
open Go Go.Proofs.Ytcaogllnbpmcgaa.P
/-- A split: who, no, yes. -/
def goalB (n k wd : Nat) (hold : Nat → Bool) : Bool := goalM n (2 ^ k - 1) wd hold
theorem goalB_iff (n k wd : Nat) (hold : Nat → Bool) : goalB n k wd hold = true ↔ ∀ w, w < 2 ^ n → w % 2 ^ k = wd → hold w = true := by
 unfold goalB
 rw [goalM_iff]
 constructor <;> intro h w hw hm <;> exact h w hw (by first | rwa [Nat.and_two_pow_sub_one_eq_mod] | rwa [Nat.and_two_pow_sub_one_eq_mod] at hm)
/-- By what a case is closed. -/
def closeC (n k wd : Nat) (may : Nat → Nat → Bool) : Nat → Nat → Option Int
 | 0, _ => none
 | d + 1, i => if goalB n k wd (fun w => !may i w) = true then some (-2 - (i : Int)) else closeC n k wd may d (i + 1)
def closeP (n k wd m : Nat) (hold : Nat → Bool) (may : Nat → Nat → Bool) : Option Int :=
 if goalB n k wd hold = true then some (-1) else closeC n k wd may m 0
def growQ (n m : Nat) (hold : Nat → Bool) (may : Nat → Nat → Bool) : Nat → Nat → Nat → Nat → Option (List Sp × Int)
 | d, k, wd, L => match closeP n k wd m hold may with
  | some t => some ([], t)
  | none => match d with
   | 0 => none
   | d + 1 => match growQ n m hold may d (k + 1) wd (L + 1) with
    | none => none
    | some (a, no) => match growQ n m hold may d (k + 1) (wd + 2 ^ k) (L + 1 + a.length) with
     | none => none
     | some (b, yes) => some (⟨(k : Int), no, yes⟩ :: (a ++ b), (L : Int))
theorem growQ_close {n m : Nat} {hold : Nat → Bool} {may : Nat → Nat → Bool} {d k wd L : Nat} {t : Int} (h : closeP n k wd m hold may = some t) : growQ n m hold may d k wd L = some ([], t) := by
 cases d <;> simp only [growQ, h]
theorem growQ_zero {n m : Nat} {hold : Nat → Bool} {may : Nat → Nat → Bool} {k wd L : Nat} (h : closeP n k wd m hold may = none) : growQ n m hold may 0 k wd L = none := by
 simp only [growQ, h]
theorem growQ_no {n m : Nat} {hold : Nat → Bool} {may : Nat → Nat → Bool} {d k wd L : Nat} (h : closeP n k wd m hold may = none) (h1 : growQ n m hold may d (k + 1) wd (L + 1) = none) : growQ n m hold may (d + 1) k wd L = none := by
 rw [growQ, h]
 simp only
 rw [h1]
theorem growQ_yes {n m : Nat} {hold : Nat → Bool} {may : Nat → Nat → Bool} {d k wd L : Nat} {a : List Sp} {no : Int} (h : closeP n k wd m hold may = none) (h1 : growQ n m hold may d (k + 1) wd (L + 1) = some (a, no))
  (h2 : growQ n m hold may d (k + 1) (wd + 2 ^ k) (L + 1 + a.length) = none) : growQ n m hold may (d + 1) k wd L = none := by
 rw [growQ, h]
 simp only
 rw [h1]
 simp only
 rw [h2]
theorem growQ_both {n m : Nat} {hold : Nat → Bool} {may : Nat → Nat → Bool} {d k wd L : Nat} {a b : List Sp} {no yes : Int} (h : closeP n k wd m hold may = none) (h1 : growQ n m hold may d (k + 1) wd (L + 1) = some (a, no))
  (h2 : growQ n m hold may d (k + 1) (wd + 2 ^ k) (L + 1 + a.length) = some (b, yes)) : growQ n m hold may (d + 1) k wd L = some (⟨(k : Int), no, yes⟩ :: (a ++ b), (L : Int)) := by
 rw [growQ, h]
 simp only
 rw [h1]
 simp only
 rw [h2]
theorem closeC_some (n k wd : Nat) (may : Nat → Nat → Bool) : ∀ d i t, closeC n k wd may d i = some t → ∃ j, i ≤ j ∧ j < i + d ∧ t = -2 - (j : Int) ∧ goalB n k wd (fun w => !may j w) = true
 | 0, _, _, h => by cases h
 | d + 1, i, t, h => by
  unfold closeC at h
  by_cases hg : goalB n k wd (fun w => !may i w) = true
  ·rw [if_pos hg] at h
   exact ⟨i, Nat.le_refl _, by omega, (Option.some.inj h).symm, hg⟩
  ·rw [if_neg hg] at h
   obtain ⟨j, h1, h2, h3, h4⟩ := closeC_some n k wd may d (i + 1) t h
   exact ⟨j, by omega, by omega, h3, h4⟩
theorem closeC_none (n k wd : Nat) (may : Nat → Nat → Bool) : ∀ d i, closeC n k wd may d i = none → ∀ j, i ≤ j → j < i + d → goalB n k wd (fun w => !may j w) = false
 | 0, _, _, j, h1, h2 => by omega
 | d + 1, i, h, j, h1, h2 => by
  unfold closeC at h
  by_cases hg : goalB n k wd (fun w => !may i w) = true
  ·rw [if_pos hg] at h; cases h
  ·rw [if_neg hg] at h
   rcases Nat.eq_or_lt_of_le h1 with rfl | h1
   ·exact Bool.eq_false_iff.2 hg
   ·exact closeC_none n k wd may d (i + 1) h j h1 (by omega)
/-- In each world that agrees with what is known the term holds, or some claim may not be made. -/
def sureP (n m k wd : Nat) (hold : Nat → Bool) (may : Nat → Nat → Bool) : Prop := ∀ w, w < 2 ^ n → w % 2 ^ k = wd → hold w = true ∨ ∃ i, i < m ∧ may i w = false
theorem close_sure {n m k wd : Nat} {hold : Nat → Bool} {may : Nat → Nat → Bool} {t : Int} (h : closeP n k wd m hold may = some t) : sureP n m k wd hold may := by
 intro w hw hm
 unfold closeP at h
 by_cases hg : goalB n k wd hold = true
 ·exact .inl ((goalB_iff _ _ _ _).1 hg w hw hm)
 ·rw [if_neg hg] at h
  obtain ⟨j, _, h2, _, h4⟩ := closeC_some n k wd may m 0 t h
  have := (goalB_iff _ _ _ _).1 h4 w hw hm
  exact .inr ⟨j, by omega, by simpa using this⟩
theorem pow_split (w k : Nat) : w % 2 ^ (k + 1) = w % 2 ^ k ∨ w % 2 ^ (k + 1) = w % 2 ^ k + 2 ^ k := by
 rw [Nat.pow_succ, Nat.mod_mul]
 rcases Nat.mod_two_eq_zero_or_one (w / 2 ^ k) with h | h <;> rw [h] <;> simp
theorem pow_down (w k wd : Nat) (h : wd < 2 ^ k) : (w % 2 ^ (k + 1) = wd → w % 2 ^ k = wd) ∧ (w % 2 ^ (k + 1) = wd + 2 ^ k → w % 2 ^ k = wd) := by
 have h0 : w % 2 ^ k < 2 ^ k := Nat.mod_lt _ (Nat.pow_pos (by decide))
 have := pow_split w k
 constructor <;> intro h1 <;> omega
theorem sure_split {n m k wd : Nat} {hold : Nat → Bool} {may : Nat → Nat → Bool} (hwd : wd < 2 ^ k) : sureP n m k wd hold may ↔ sureP n m (k + 1) wd hold may ∧ sureP n m (k + 1) (wd + 2 ^ k) hold may := by
 constructor
 ·exact fun h => ⟨fun w hw hm => h w hw ((pow_down w k wd hwd).1 hm), fun w hw hm => h w hw ((pow_down w k wd hwd).2 hm)⟩
 ·rintro ⟨h1, h2⟩ w hw hm
  have := pow_split w k
  rcases this with e | e
  ·exact h1 w hw (by omega)
  ·exact h2 w hw (by omega)
theorem grow_iff (n m : Nat) (hold : Nat → Bool) (may : Nat → Nat → Bool) : ∀ (d k wd L : Nat), k + d = n → wd < 2 ^ k → ((growQ n m hold may d k wd L).isSome = true ↔ sureP n m k wd hold may) := by
 intro d
 induction d with
 | zero =>
  intro k wd L hk hwd
  cases hc : closeP n k wd m hold may with
  | some t =>
   rw [growQ_close hc]
   exact ⟨fun _ => close_sure hc, fun _ => rfl⟩
  | none =>
   rw [growQ_zero hc]
   refine ⟨fun h => (by cases h), fun h => ?_⟩
   exfalso
   obtain rfl : k = n := by omega
   have hm : wd % 2 ^ k = wd := Nat.mod_eq_of_lt hwd
   unfold closeP at hc
   by_cases hg : goalB k k wd hold = true
   ·rw [if_pos hg] at hc; cases hc
   ·rw [if_neg hg] at hc
    rcases h wd hwd hm with h | ⟨i, hi, h⟩
    ·refine hg ((goalB_iff _ _ _ _).2 fun w hw hm' => ?_)
     rw [Nat.mod_eq_of_lt hw] at hm'
     rw [hm']; exact h
    ·have := closeC_none k k wd may m 0 hc i (by omega) (by omega)
     rw [Bool.eq_false_iff] at this
     refine this ((goalB_iff _ _ _ _).2 fun w hw hm' => ?_)
     rw [Nat.mod_eq_of_lt hw] at hm'
     rw [hm', h]; rfl
 | succ d ih =>
  intro k wd L hk hwd
  have h1 := fun L => ih (k + 1) wd L (by omega) (by rw [Nat.pow_succ]; omega)
  have h2 := fun L => ih (k + 1) (wd + 2 ^ k) L (by omega) (by rw [Nat.pow_succ]; omega)
  cases hc : closeP n k wd m hold may with
  | some t =>
   rw [growQ_close hc]
   exact ⟨fun _ => close_sure hc, fun _ => rfl⟩
  | none =>
   rw [sure_split hwd]
   cases e1 : growQ n m hold may d (k + 1) wd (L + 1) with
   | none =>
    rw [growQ_no hc e1]
    have := h1 (L + 1)
    rw [e1] at this
    exact ⟨fun h => (by cases h), fun h => this.2 h.1⟩
   | some x =>
    obtain ⟨a, no⟩ := x
    have t1 := h1 (L + 1)
    rw [e1] at t1
    have t2 := h2 (L + 1 + a.length)
    cases e2 : growQ n m hold may d (k + 1) (wd + 2 ^ k) (L + 1 + a.length) with
    | none =>
     rw [growQ_yes hc e1 e2]
     rw [e2] at t2
     exact ⟨fun h => (by cases h), fun h => t2.2 h.2⟩
    | some y =>
     obtain ⟨b, yes⟩ := y
     rw [growQ_both hc e1 e2]
     rw [e2] at t2
     exact ⟨fun _ => ⟨t1.1 rfl, t2.1 rfl⟩, fun _ => rfl⟩
/-- At most so many splits. -/
theorem grow_len (n m : Nat) (hold : Nat → Bool) (may : Nat → Nat → Bool) : ∀ (d k wd L : Nat) (a : List Sp) (t : Int), growQ n m hold may d k wd L = some (a, t) → a.length + 1 ≤ 2 ^ d := by
 intro d
 induction d with
 | zero =>
  intro k wd L a t h
  cases hc : closeP n k wd m hold may with
  | some t => rw [growQ_close hc] at h; cases h; decide
  | none => rw [growQ_zero hc] at h; cases h
 | succ d ih =>
  intro k wd L a t h
  cases hc : closeP n k wd m hold may with
  | some t =>
   rw [growQ_close hc] at h
   cases h
   exact Nat.pow_pos (by decide)
  | none =>
   cases e1 : growQ n m hold may d (k + 1) wd (L + 1) with
   | none => rw [growQ_no hc e1] at h; cases h
   | some x =>
    obtain ⟨a1, no⟩ := x
    cases e2 : growQ n m hold may d (k + 1) (wd + 2 ^ k) (L + 1 + a1.length) with
    | none => rw [growQ_yes hc e1 e2] at h; cases h
    | some y =>
     obtain ⟨b, yes⟩ := y
     rw [growQ_both hc e1 e2] at h
     have h1 := ih _ _ _ _ _ e1
     have h2 := ih _ _ _ _ _ e2
     cases h
     rw [List.length_cons, List.length_append, Nat.pow_succ]
     omega
theorem close_cl {n m k wd : Nat} {hold : Nat → Bool} {may : Nat → Nat → Bool} {t : Int} (h : closeP n k wd m hold may = some t) : t < 0 ∧ clM n m hold may (2 ^ k - 1) wd t = true := by
 unfold closeP at h
 by_cases hg : goalB n k wd hold = true
 ·rw [if_pos hg] at h
  cases h
  exact ⟨by decide, by unfold clM; rw [if_pos rfl]; exact hg⟩
 ·rw [if_neg hg] at h
  obtain ⟨j, _, h2, rfl, h4⟩ := closeC_some n k wd may m 0 t h
  refine ⟨by omega, ?_⟩
  unfold clM
  rw [if_neg (by omega), if_pos (by omega), show (-2 - (-2 - (j : Int))).toNat = j by omega]
  exact h4
theorem and_bit {w kn wd who : Nat} (hw : w &&& kn = wd) (hb : kn.testBit who = false) : w &&& (kn ||| 2 ^ who) = wd ∨ w &&& (kn ||| 2 ^ who) = wd ||| 2 ^ who := by
 subst hw
 rw [Nat.and_or_distrib_left]
 by_cases h : w.testBit who = true
 ·right
  congr 1
  refine Nat.eq_of_testBit_eq fun i => ?_
  rw [Nat.testBit_and, Nat.testBit_two_pow]
  by_cases hi : who = i
  ·subst hi; simp [h]
  ·simp [hi]
 ·left
  have : w &&& 2 ^ who = 0 := by
   refine Nat.eq_of_testBit_eq fun i => ?_
   rw [Nat.testBit_and, Nat.testBit_two_pow, Nat.zero_testBit]
   by_cases hi : who = i
   ·subst hi; simpa using h
   ·simp [hi]
  rw [this, Nat.or_zero]
/-- What is checked holds. -/
theorem vis_sound {S : List Sp} {n m : Nat} {hold : Nat → Bool} {may : Nat → Nat → Bool} : ∀ (f : Nat) (tgt : Int) (kn wd : Nat) (l : List Nat), visP S n (clM n m hold may) f tgt kn wd = some l →
  ∀ w, w < 2 ^ n → w &&& kn = wd → hold w = true ∨ ∃ i, i < m ∧ may i w = false := by
 intro f
 induction f with
 | zero => intro tgt kn wd l h; cases h
 | succ f ih =>
  intro tgt kn wd l h w hw hm
  by_cases h0 : tgt < 0
  ·rw [vis_neg h0] at h
   split at h
   ·rename_i hc
    unfold clM at hc
    split at hc
    ·exact .inl ((goalM_iff _ _ _ _).1 hc w hw hm)
    ·split at hc
     ·rename_i hj
      have := (goalM_iff _ _ _ _).1 hc w hw hm
      exact .inr ⟨(-2 - tgt).toNat, by omega, by simpa using this⟩
     ·cases hc
   ·cases h
  ·obtain ⟨hn, hs, a, b, ha, hb, rfl⟩ := vis_some h0 h
   rcases and_bit hm hn.2.2 with e | e
   ·exact ih _ _ _ a ha w hw e
   ·exact ih _ _ _ b hb w hw e
/-- What closes by less closes by more. -/
theorem vis_more {S : List Sp} {n : Nat} {cl cl' : Nat → Nat → Int → Bool} (hc : ∀ kn wd t, cl kn wd t = true → cl' kn wd t = true) : ∀ (f : Nat) (tgt : Int) (kn wd : Nat) (l : List Nat), visP S n cl f tgt kn wd = some l → visP S n cl' f tgt kn wd = some l := by
 intro f
 induction f with
 | zero => intro tgt kn wd l h; cases h
 | succ f ih =>
  intro tgt kn wd l h
  by_cases h0 : tgt < 0
  ·rw [vis_neg h0] at h ⊢
   split at h
   ·rename_i hx
    rw [if_pos (hc _ _ _ hx)]
    exact h
   ·cases h
  ·obtain ⟨hn, hs, a, b, ha, hb, rfl⟩ := vis_some h0 h
   exact vis_node h0 hn hs (ih _ _ _ _ ha) (ih _ _ _ _ hb)
theorem two_pow_or (k : Nat) : (2 ^ k - 1) ||| 2 ^ k = 2 ^ (k + 1) - 1 := by
 refine Nat.eq_of_testBit_eq fun i => ?_
 rw [Nat.testBit_or, Nat.testBit_two_pow_sub_one, Nat.testBit_two_pow_sub_one, Nat.testBit_two_pow]
 rw [Bool.eq_iff_iff, Bool.or_eq_true, decide_eq_true_eq, decide_eq_true_eq, decide_eq_true_eq]
 omega
theorem low_or {wd k : Nat} (h : wd < 2 ^ k) : wd ||| 2 ^ k = wd + 2 ^ k := by
 have := Nat.two_pow_add_eq_or_of_lt h 1
 rw [Nat.mul_one] at this
 rw [Nat.or_comm, Nat.add_comm, this]
theorem app_get (a b : List Sp) (j : Nat) : (a ++ b).getD j zS = if j < a.length then a.getD j zS else b.getD (j - a.length) zS := by
 rw [List.getD_eq_getElem?_getD, List.getD_eq_getElem?_getD, List.getD_eq_getElem?_getD, List.getElem?_append]
 split <;> rfl
/-- What was grown is checked. -/
theorem grow_vis {S : List Sp} {n m : Nat} {hold : Nat → Bool} {may : Nat → Nat → Bool} : ∀ (d k wd L f : Nat) (a : List Sp) (t : Int), k + d = n → wd < 2 ^ k → d < f → growQ n m hold may d k wd L = some (a, t) →
  L + a.length ≤ S.length → (∀ j, j < a.length → S.getD (L + j) zS = a.getD j zS) →
  visP S n (clM n m hold may) f t (2 ^ k - 1) wd = some (List.range' L a.length) ∧ (t < 0 ∨ t = (L : Int) ∧ 0 < a.length) := by
 intro d
 induction d with
 | zero =>
  intro k wd L f a t hk hwd hf h hL hS
  cases hc : closeP n k wd m hold may with
  | none => rw [growQ_zero hc] at h; cases h
  | some u =>
   rw [growQ_close hc] at h
   cases h
   obtain ⟨h1, h2⟩ := close_cl hc
   cases f with
   | zero => omega
   | succ f =>
    rw [vis_neg h1, if_pos h2]
    exact ⟨rfl, .inl h1⟩
 | succ d ih =>
  intro k wd L f a t hk hwd hf h hL hS
  cases f with
  | zero => omega
  | succ f =>
   cases hc : closeP n k wd m hold may with
   | some u =>
    rw [growQ_close hc] at h
    cases h
    obtain ⟨h1, h2⟩ := close_cl hc
    rw [vis_neg h1, if_pos h2]
    exact ⟨rfl, .inl h1⟩
   | none =>
    cases e1 : growQ n m hold may d (k + 1) wd (L + 1) with
    | none => rw [growQ_no hc e1] at h; cases h
    | some x =>
     obtain ⟨a1, no⟩ := x
     cases e2 : growQ n m hold may d (k + 1) (wd + 2 ^ k) (L + 1 + a1.length) with
     | none => rw [growQ_yes hc e1 e2] at h; cases h
     | some y =>
      obtain ⟨b, yes⟩ := y
      rw [growQ_both hc e1 e2] at h
      cases h
      rw [List.length_cons, List.length_append] at hL hS
      have h0 := hS 0 (by omega)
      rw [Nat.add_zero] at h0
      have h0 : S.getD L zS = ⟨(k : Int), no, yes⟩ := h0
      have hp : 2 ^ (k + 1) = 2 ^ k * 2 := Nat.pow_succ ..
      obtain ⟨v1, o1⟩ := ih (k + 1) wd (L + 1) f a1 no (by omega) (by omega) (by omega) e1 (by omega) (fun j hj => by
       have := hS (j + 1) (by omega)
       rw [List.getD_cons_succ, app_get, if_pos hj] at this
       rw [← this]; congr 1; omega)
      obtain ⟨v2, o2⟩ := ih (k + 1) (wd + 2 ^ k) (L + 1 + a1.length) f b yes (by omega) (by omega) (by omega) e2 (by omega) (fun j hj => by
       have := hS (a1.length + j + 1) (by omega)
       rw [List.getD_cons_succ, app_get, if_neg (by omega), show a1.length + j - a1.length = j by omega] at this
       rw [← this]; congr 1; omega)
      refine ⟨?_, .inr ⟨rfl, by simp⟩⟩
      have hbit : (2 ^ k - 1).testBit k = false := by rw [Nat.testBit_two_pow_sub_one]; simp
      have e : ((L : Int)).toNat = L := Int.toNat_natCast L
      have hkt : (S.getD ((L : Int)).toNat zS).f0.toNat = k := by rw [e, h0]; exact Int.toNat_natCast k
      rw [vis_node (f := f) (tgt := (L : Int)) (a := List.range' (L + 1) a1.length) (b := List.range' (L + 1 + a1.length) b.length) (by omega) ⟨by rw [e, h0]; show 0 ≤ (k : Int); omega, by rw [e, h0]; show (k : Int) < n; omega, by rw [hkt]; exact hbit⟩
       ⟨by
        rw [e, h0]
        show okN S no _
        unfold okN
        omega, by
        rw [e, h0]
        show okN S yes _
        unfold okN
        omega⟩
       (by rw [hkt, two_pow_or, e, h0]; exact v1) (by rw [hkt, two_pow_or, low_or hwd, e, h0]; exact v2)]
      rw [e, List.length_cons, List.length_append, List.range'_succ, ← List.range'_append_1]
end Go.Proofs.Ytcaogllnbpmcgaa.Q

/- FindProof told: what grows from nothing. -/
set_option linter.unusedVariables false
set_option linter.unusedSimpArgs false
namespace Go.Proofs.Ytcaogllnbpmcgaa.M
open Go Go.RowKit Go.Proofs.YtcaogllnbpmcgaaW.PrintWords Go.Proofs.Ytcaogllnbpmcgaa.P
def grQ (n : Nat) (s : List Cl) (t : List Mk) : Nat → Nat → Nat → Nat → Option (List Q.Sp × Int) := Q.growQ n s.length (holdT t) (mayT s)
def findO : Option (List Q.Sp × Int) → Int × List Q.Sp × Bool
 | some (a, x) => (x, a, true)
 | none => (0, [], false)
/-- What FindProof tells. -/
noncomputable def findF (n : Int) (s : List Cl) (t : List Mk) : Int × List Q.Sp × Bool :=
 @ite _ (StoryP n s ∧ TermP n t) (Classical.propDecidable _) (findO (grQ n.toNat s t n.toNat 0 0 0)) (0, [], false)
end Go.Proofs.Ytcaogllnbpmcgaa.M

/- The closure that finds a proof, which calls itself. (Function and type numbers of this seat stand in this text; printed by gen_find.py.) -/
set_option linter.unusedVariables false
set_option linter.unusedSimpArgs false
namespace Go.Proofs.Ytcaogllnbpmcgaa.M
open Go Go.RowKit Go.Proofs.YtcaogllnbpmcgaaW.PrintWords Go.Proofs.YtcaogllnbpmcgaaW.PrintLast Go.Proofs.YtcaogllnbpmcgaaW.PrintMore Go.Proofs.Ytcaogllnbpmcgaa.P Go.Maps
theorem skip_ {P : Program} {ops : Array Oper} {Q : Exit → Act → World → Prop} {oi : Oper} {N : Option Tmp} {a : Act} {w w1 : World} {K : Act → World → Prop} (hw : Region.wanted oi (yielded ops a.tmps) = true) (hN : oi.dst = N) (hrun : (execOp a.eval oi).run P w = .ok .skip w1)
  (h : K (a.put N undef) w1) : if Region.wanted oi (yielded ops a.tmps) = true then Oper.wp P oi a w K Q else K (a.put N undef) w := by
 rw [if_pos hw]
 subst hN
 unfold Oper.wp
 rw [hrun]
 exact h
abbrev spKd := k93
/-- The captured variables, and the splits so far, in a world; and one block more, that stays. -/
structure FE (n : Nat) (s : List Cl) (A1 : Option Addr) (c1 : Nat) (t : List Mk) (A2 : Option Addr) (c2 b0 b1 b2 b3 b5 bx : Nat) (cx : Array Value) (w0 W : World) (v : Value) (sp : List Q.Sp) : Prop where
 hp : W.heap[b0]? = some (.cells #[.int .i64 (n : Int)] 3 (0, 0))
 hs : W.heap[b1]? = some (.cells #[.slice A1 s.length c1] 25 (0, 0))
 ht : W.heap[b2]? = some (.cells #[.slice A2 t.length c2] 36 (0, 0))
 hq : W.heap[b3]? = some (.cells #[.int .i64 0, v] 51 (0, 0))
 hf : W.heap[b5]? = some (.cells #[.func (.func 66) #[] #[ptr b0, ptr b1, ptr b2, ptr b3, ptr b5]] 89 (0, 0))
 hx : W.heap[bx]? = some (.cells cx 51 (0, 0))
 hr : Kd.R spKd 93 W w0.heap.size (fun _ => True) v sp
 hb : Below w0.heap.size w0 W
 hxq : bx ≠ b3
 hqB : w0.heap.size ≤ b3
section
variable {n : Nat} {s : List Cl} {A1 : Option Addr} {c1 : Nat} {t : List Mk} {A2 : Option Addr} {c2 b0 b1 b2 b3 b5 bx : Nat} {cx : Array Value} {w0 W W' : World} {v : Value} {sp : List Q.Sp}
theorem FE.below (h : FE n s A1 c1 t A2 c2 b0 b1 b2 b3 b5 bx cx w0 W v sp) (hb : Below W.heap.size W W') : FE n s A1 c1 t A2 c2 b0 b1 b2 b3 b5 bx cx w0 W' v sp :=
 ⟨blk_below h.hp hb, blk_below h.hs hb, blk_below h.ht hb, blk_below h.hq hb, blk_below h.hf hb, blk_below h.hx hb, Kd.R_below h.hr hb, below_step h.hb hb, h.hxq, h.hqB⟩
theorem FE.step {sp' : List Q.Sp} (h : FE n s A1 c1 t A2 c2 b0 b1 b2 b3 b5 bx cx w0 W v sp) (hg : W.grownBy W' v.ownBlock) (hR : Kd.R spKd 93 W' w0.heap.size (fun _ => True) v sp') (hb : Below w0.heap.size w0 W') : FE n s A1 c1 t A2 c2 b0 b1 b2 b3 b5 bx cx w0 W' v sp' :=
 ⟨blk_grown h.hp hg (Kd.R_ne h.hr h.hp (by decide)), blk_grown h.hs hg (Kd.R_ne h.hr h.hs (by decide)), blk_grown h.ht hg (Kd.R_ne h.hr h.ht (by decide)), blk_grown h.hq hg (Kd.R_ne h.hr h.hq (by decide)), blk_grown h.hf hg (Kd.R_ne h.hr h.hf (by decide)), blk_grown h.hx hg (Kd.R_ne h.hr h.hx (by decide)), hR, hb, h.hxq, h.hqB⟩
theorem FE.append {v' : Value} {sp' : List Q.Sp} (h : FE n s A1 c1 t A2 c2 b0 b1 b2 b3 b5 bx cx w0 W v sp) (hg : W.grownBy W' v.ownBlock) (hR : Kd.R spKd 93 W' w0.heap.size (fun _ => True) v' sp') (hb : Below w0.heap.size w0 W') : FE n s A1 c1 t A2 c2 b0 b1 b2 b3 b5 bx cx w0 (W'.setCell ⟨b3, 1, none⟩ v') v' sp' := by
 have hq := blk_grown h.hq hg (Kd.R_ne h.hr h.hq (by decide))
 have ne : ∀ {b t : Nat} {cs : Array Value}, W'.heap[b]? = some (.cells cs t (0, 0)) → t ≠ 51 → b ≠ b3 := fun hb ht => blk_ne_ hb hq ht
 have g0 := blk_grown h.hp hg (Kd.R_ne h.hr h.hp (by decide))
 have g1 := blk_grown h.hs hg (Kd.R_ne h.hr h.hs (by decide))
 have g2 := blk_grown h.ht hg (Kd.R_ne h.hr h.ht (by decide))
 have g5 := blk_grown h.hf hg (Kd.R_ne h.hr h.hf (by decide))
 have gx := blk_grown h.hx hg (Kd.R_ne h.hr h.hx (by decide))
 refine ⟨blk_far g0 (ne g0 (by decide)) _, blk_far g1 (ne g1 (by decide)) _, blk_far g2 (ne g2 (by decide)) _, blk_put hq 1 _ rfl, blk_far g5 (ne g5 (by decide)) _, blk_far gx h.hxq _, ?_, below_set hb h.hqB, h.hxq, h.hqB⟩
 exact Kd.R_mono (Kd.R_far (p := ⟨b3, 1, none⟩) (Kd.R_types hR hq (by decide)) (fun _ hk => hk.2) v') (fun _ h => h.1)
theorem FE.no (h : FE n s A1 c1 t A2 c2 b0 b1 b2 b3 b5 bx cx w0 W v sp) (i : Nat) (hi : i < sp.length) (f0 f1 f2 : Int) (he : sp.getD i Q.zS = ⟨f0, f1, f2⟩) (u : Int) :
  ∃ g c, v = .slice (some ⟨g, 0, none⟩) sp.length c ∧ (∃ y, W.cell? ⟨g, i * 3 + 1, none⟩ = some y) ∧ W.frozen? ⟨g, i * 3 + 1, none⟩ = false ∧ g ≠ b3 ∧ FE n s A1 c1 t A2 c2 b0 b1 b2 b3 b5 bx cx w0 (W.setCell ⟨g, i * 3 + 1, none⟩ (.int .i64 u)) v (sp.set i ⟨f0, u, f2⟩) := by
 obtain ⟨g, c, hv, hg1, hg2, cells, hg⟩ := Kd.R_form h.hr (by omega)
 subst hv
 have e : sp.getD (Int.toNat (i : Int)) z93 = ⟨f0, f1, f2⟩ := by rw [Int.toNat_natCast]; exact he
 obtain ⟨ce, hcl, hM, hcc, hfr⟩ := Kd.R_elem h.hr z93 (i : Int) (by omega) (by omega)
 rw [e] at hM
 obtain rfl := k93_openM hM
 have hP := Kd.R_seg h.hr (i : Int) (by omega) (by omega) (seg := [.int .i64 u]) (j := 1) hcl hcc (show 2 ≤ 3 by decide) (x' := (⟨f0, u, f2⟩ : S93)) (k93_mkM _ _ _ (⟨f0, u, f2⟩ : S93)) (fun _ hk => hk)
 rw [Int.toNat_natCast] at hP
 have hne : g ≠ b3 := blk_ne_ hg h.hq (by decide)
 refine ⟨g, c, rfl, ⟨_, hcc 1 _ rfl⟩, hfr 1, hne, h.step hP.2 hP.1 (below_set h.hb hg1)⟩
theorem FE.yes (h : FE n s A1 c1 t A2 c2 b0 b1 b2 b3 b5 bx cx w0 W v sp) (i : Nat) (hi : i < sp.length) (f0 f1 f2 : Int) (he : sp.getD i Q.zS = ⟨f0, f1, f2⟩) (u : Int) :
  ∃ g c, v = .slice (some ⟨g, 0, none⟩) sp.length c ∧ (∃ y, W.cell? ⟨g, i * 3 + 2, none⟩ = some y) ∧ W.frozen? ⟨g, i * 3 + 2, none⟩ = false ∧ g ≠ b3 ∧ FE n s A1 c1 t A2 c2 b0 b1 b2 b3 b5 bx cx w0 (W.setCell ⟨g, i * 3 + 2, none⟩ (.int .i64 u)) v (sp.set i ⟨f0, f1, u⟩) := by
 obtain ⟨g, c, hv, hg1, hg2, cells, hg⟩ := Kd.R_form h.hr (by omega)
 subst hv
 have e : sp.getD (Int.toNat (i : Int)) z93 = ⟨f0, f1, f2⟩ := by rw [Int.toNat_natCast]; exact he
 obtain ⟨ce, hcl, hM, hcc, hfr⟩ := Kd.R_elem h.hr z93 (i : Int) (by omega) (by omega)
 rw [e] at hM
 obtain rfl := k93_openM hM
 have hP := Kd.R_seg h.hr (i : Int) (by omega) (by omega) (seg := [.int .i64 u]) (j := 2) hcl hcc (show 3 ≤ 3 by decide) (x' := (⟨f0, f1, u⟩ : S93)) (k93_mkM _ _ _ (⟨f0, f1, u⟩ : S93)) (fun _ hk => hk)
 rw [Int.toNat_natCast] at hP
 have hne : g ≠ b3 := blk_ne_ hg h.hq (by decide)
 refine ⟨g, c, rfl, ⟨_, hcc 2 _ rfl⟩, hfr 2, hne, h.step hP.2 hP.1 (below_set h.hb hg1)⟩
/-- Behind a call: a proof from what is known on, if there is one. -/
def Found (n : Nat) (s : List Cl) (A1 : Option Addr) (c1 : Nat) (t : List Mk) (A2 : Option Addr) (c2 b0 b1 b2 b3 b5 bx : Nat) (cx : Array Value) (w0 : World) (g : Option (List Q.Sp × Int)) (sp : List Q.Sp) (e : Ending) (W' : World) : Prop :=
 ∃ (at_ : Int) (ok : Bool) (v' : Value) (sp' : List Q.Sp), e = .returned (.tuple #[.int .i64 at_, .bool ok]) ∧ FE n s A1 c1 t A2 c2 b0 b1 b2 b3 b5 bx cx w0 W' v' sp' ∧ sp.length ≤ sp'.length ∧ sp'.length ≤ 15 ∧
  (match g with | some (a, x) => ok = true ∧ at_ = x ∧ sp' = sp ++ a | none => ok = false)
theorem found_shape (sp a b : List Q.Sp) (y f0 f1 f2 at1 at2 x1 x2 : Int) (k : Nat) (sp1 sp5 sp6 : List Q.Sp) (hy : y = (k : Int)) (h1 : sp ++ [(⟨y, 0, 0⟩ : S93)] = sp1) (h5 : sp5 = sp1 ++ a) (h6 : sp6 = sp5 ++ b) (ha : at1 = x1) (hb : at2 = x2) (he : sp6.getD sp.length Q.zS = ⟨f0, f1, f2⟩) :
  (sp6.set sp.length ⟨f0, at1, f2⟩).set sp.length ⟨f0, at1, at2⟩ = sp ++ (⟨(k : Int), x1, x2⟩ :: (a ++ b)) := by
 subst hy
 subst ha
 subst hb
 subst h1
 subst h5
 subst h6
 have e : ((sp ++ [(⟨(k : Int), 0, 0⟩ : S93)]) ++ a) ++ b = sp ++ ((⟨(k : Int), 0, 0⟩ : S93) :: (a ++ b)) := by simp
 rw [e] at he ⊢
 rw [List.getD_eq_getElem?_getD, List.getElem?_append_right (Nat.le_refl _), Nat.sub_self] at he
 have h0 : (⟨(k : Int), 0, 0⟩ : Q.Sp) = ⟨f0, f1, f2⟩ := he
 injection h0 with h0 _ _
 subst h0
 rw [List.set_set, List.set_append_right _ _ (Nat.le_refl _), Nat.sub_self]
 rfl
theorem node_bits {k kn wd k2 wn : Nat} {ji : Int} (hk : k ≤ 4) (hkn : 2 ^ k - 1 = kn) (hwd : wd < 2 ^ k) (hk2 : 2 ^ (k + 1) - 1 = k2) (hwn : wd + 2 ^ k = wn) (hji : shl .i64 1 (k : Int) = ji) :
  Go.bits .or .i64 (kn : Int) ji = (k2 : Int) ∧ Go.bits .or .i64 (wd : Int) ji = (wn : Int) ∧ wd < 2 ^ (k + 1) ∧ wn < 2 ^ (k + 1) := by
 have hp16 : 2 ^ k ≤ 16 := Nat.pow_le_pow_right (n := 2) (by decide) hk
 have hpow : ji = ((2 ^ k : Nat) : Int) := by
  rw [← hji, shl_nat k (by omega)]
  rfl
 have hpk : 2 ^ (k + 1) = 2 * 2 ^ k := by rw [Nat.pow_succ]; omega
 have hwd16 : wd < 16 := by omega
 have hkn16 : kn < 16 := by omega
 refine ⟨?_, ?_, by omega, by omega⟩
 ·rw [hpow, or_natQ kn _ (by omega) (by omega), ← hkn, Q.two_pow_or k, hk2]
 ·rw [hpow, or_natQ wd _ (by omega) (by omega), Q.low_or hwd, hwn]
theorem two_sub (k : Nat) (h : k ≤ 4) : 2 ^ k - 1 < 16 := by
 rcases (by omega : k = 0 ∨ k = 1 ∨ k = 2 ∨ k = 3 ∨ k = 4) with rfl | rfl | rfl | rfl | rfl <;> decide
set_option maxHeartbeats 16000000 in
set_option maxRecDepth 100000 in
theorem find_node (E : FE n s A1 c1 t A2 c2 b0 b1 b2 b3 b5 bx cx w0 W v sp) (hC : Kd.C k38 w0 A1 s.length s) (hc : s.length ≤ c1) (hT : Kd.C k47 w0 A2 t.length t) (hct : t.length ≤ c2) (hS : StoryP (n : Int) s) (hP : TermP (n : Int) t)
  (d k wd : Nat) (hkd : k + d = n) (hwd : wd < 2 ^ k) (hsp : sp.length + 2 ^ d ≤ 16)
  (I : ∀ (d' : Nat), d = d' + 1 → ∀ (wd : Nat) (v : Value) (sp : List Q.Sp) (W : World), wd < 2 ^ (k + 1) → sp.length + 2 ^ d' ≤ 16 → FE n s A1 c1 t A2 c2 b0 b1 b2 b3 b5 bx cx w0 W v sp →
   Calls Try.prog 66 #[.int .i64 ((2 ^ (k + 1) - 1 : Nat) : Int), .int .i64 (wd : Int), ptr b0, ptr b1, ptr b2, ptr b3, ptr b5] W (Found n s A1 c1 t A2 c2 b0 b1 b2 b3 b5 bx cx w0 (grQ n s t d' (k + 1) wd sp.length) sp)) :
  Calls Try.prog 66 #[.int .i64 ((2 ^ k - 1 : Nat) : Int), .int .i64 (wd : Int), ptr b0, ptr b1, ptr b2, ptr b3, ptr b5] W (Found n s A1 c1 t A2 c2 b0 b1 b2 b3 b5 bx cx w0 (grQ n s t d k wd sp.length) sp) := by
 have hn := hS.2.1
 have h6 := hS.2.2
 have hn4 : n ≤ 4 := by omega
 have hkn16 := two_sub k (by omega)
 have hwd16 : wd < 16 := Nat.lt_of_lt_of_le hwd (Nat.pow_le_pow_right (n := 2) (by decide) (show k ≤ 4 by omega))
 obtain ⟨kn, hkn⟩ : ∃ kn : Nat, 2 ^ k - 1 = kn := ⟨_, rfl⟩
 rw [hkn]
 rw [hkn] at hkn16
 obtain ⟨G, hG⟩ : ∃ G, grQ n s t d k wd sp.length = G := ⟨_, rfl⟩
 rw [hG]
 obtain ⟨Ao, co, eo⟩ := Kd.R_slice E.hr
 subst eo
 have x0 := cell_of_one E.hp
 have x1 := cell_of_one E.hs
 have x2 := cell_of_one E.ht
 have T := Lib.hid (closed_calls n s A1 c1 t A2 c2 kn wd W (Kd.C_below hC E.hb) hc (Kd.C_below hT E.hb) hct hS hP hkn16 hwd16)
 have hkey := keyC_of (-1) (by omega) (by omega)
 obtain ⟨bg, hbg⟩ : ∃ b : Bool, Q.goalM n kn wd (holdT t) = b := ⟨_, rfl⟩
 have hHC := Lib.hid hC
 have hHT := Lib.hid hT
 have HSP := Lib.hid hsp
 have HI := Lib.hid I
 have HG := Lib.hid hG
 have HKN := Lib.hid hkn
 have HWD := Lib.hid hwd
 have hlen15 : sp.length ≤ 15 := by have := Nat.two_pow_pos d; omega
 clear hC hT I hG hkn hwd hsp hS hP
 have hcl1 : clQ n s t kn wd (-1) = bg := by rw [← hbg]; unfold clQ Q.clM; rw [if_pos rfl]
 go_enter Try.func66, Try.ntmps66
 cases bg with
 | true =>
  have HR := Lib.hid (show G = some ([], -1) by
   rw [← HG.out]
   unfold grQ
   refine Q.growQ_close ?_
   unfold Q.closeP Q.goalB
   rw [HKN.out, if_pos hbg])
  go_wp2_with (first
   | (go_at_call 67; (refine T.out.mono ?_); rintro e W1 ⟨B, kk, D, rfl, hown, hB, hb1, hcl⟩; have hat : D.atKey (keyC (-1)) fF = .lit (.bool true) := (hcl.2 (-1)).trans (by rw [← hcl1]; rfl); have E1 := Lib.hid (E.below hb1); clear hcl hb1)
   | (at_lookup; refine wpList_lookup_b _ rfl _ _ _ rfl 3 4 lawC Try.underlying90 Try.underlying4 (zeroC _) B kk D rfl hown _ _ rfl hkey _ hat ?_))
  go_ret2
  rw [HR.out]
  exact ⟨-1, true, _, sp, rfl, E1.out, Nat.le_refl _, hlen15, rfl, rfl, (List.append_nil _).symm⟩
 | false =>
  go_upto_region 4 with (first
   | (go_at_call 67; (refine T.out.mono ?_); rintro e W1 ⟨B, kk, D, rfl, hown, hB, hb1, hcl⟩; have hat : D.atKey (keyC (-1)) fF = .lit (.bool false) := (hcl.2 (-1)).trans (by rw [← hcl1]; rfl); have E1 := Lib.hid (E.below hb1); have HCL := Lib.hid hcl; clear hcl hb1)
   | (at_lookup; refine wpList_lookup_b _ rfl _ _ _ rfl 3 4 lawC Try.underlying90 Try.underlying4 (zeroC _) B kk D rfl hown _ _ rfl hkey _ hat ?_))
  have y1 := cell_of_one E1.out.hs
  have y0 := cell_of_one E1.out.hp
  have y3 : W1.cell? ⟨b3, 1, none⟩ = some (.slice Ao sp.length co) := (blk_cell E1.out.hq 1).trans rfl
  have hgb : Q.goalB n k wd (holdT t) = false := by unfold Q.goalB; rw [HKN.out]; exact hbg
  clear hcl1 hbg hat hkey T x0 x1 x2 E
  go_wp2
  go_loopg [29] s.length (fun kq v29 w' => ∃ (i : Nat) (x : Int), v29 = .int .i64 x ∧ Hid (x = (i : Int)) ∧ i + kq = s.length ∧ w' = W1 ∧ Hid (Q.closeC n k wd (mayT s) kq i = Q.closeC n k wd (mayT s) s.length 0))
  case atStart => exact ⟨0, 0, rfl, Lib.hid rfl, by omega, rfl, Lib.hid rfl⟩
  case round =>
   obtain ⟨i, x, rfl, hxi, hik, hww, hcc⟩ := hrel
   subst wr
   have hxi' := hxi.out
   by_cases hlt : i < s.length
   ·have c6b0 : decide (x < (s.length : Int)) = true := decide_eq_true (by omega)
    cases gk with
    | zero => omega
    | succ k1 =>
    have hw64 : wrap64 (x + 1) = ((i + 1 : Nat) : Int) := by rw [hxi', Go.Proofs.Ytcaogllnbpmcgaa.M.w64 (by omega) (by omega)]; omega
    have hw64b : wrap64 (-2 - x) = -2 - x := Go.Proofs.Ytcaogllnbpmcgaa.M.w64 (by omega) (by omega)
    have hkey2 : keyOf Try.prog 3 (.int .i64 (wrap64 (-2 - x))) = some (keyC (-2 - x)) := by rw [hw64b]; exact keyC_of (-2 - x) (by omega) (by omega)
    have HW64B := Lib.hid hw64b
    obtain ⟨bi, hbi⟩ : ∃ b : Bool, Q.goalM n kn wd (fun w => !mayT s i w) = b := ⟨_, rfl⟩
    have hat2 : D.atKey (keyC (-2 - x)) fF = .lit (.bool bi) := (HCL.out.2 (-2 - x)).trans (by
     rw [← hbi]
     unfold Q.clM
     rw [if_neg (by omega), if_pos (by omega), show (-2 - (-2 - x)).toNat = i by omega])
    have hci : Q.closeC n k wd (mayT s) (k1 + 1) i = if Q.goalB n k wd (fun w => !mayT s i w) = true then some (-2 - (i : Int)) else Q.closeC n k wd (mayT s) k1 (i + 1) := rfl
    have hgi : Q.goalB n k wd (fun w => !mayT s i w) = bi := by unfold Q.goalB; rw [HKN.out]; exact hbi
    rw [hgi] at hci
    have HCI := Lib.hid hci
    clear hci hgi hbi hxi' hw64b
    cases bi with
    | true =>
     have HR := Lib.hid (show G = some ([], -2 - (i : Int)) by
      rw [← HG.out]
      unfold grQ
      refine Q.growQ_close ?_
      unfold Q.closeP
      rw [hgb, if_neg (by decide), ← hcc.out, HCI.out, if_pos rfl])
     clear hgb
     go_wp2_with (at_lookup; refine wpList_lookup_b _ rfl _ _ _ rfl 3 4 lawC Try.underlying90 Try.underlying4 (zeroC _) B kk D rfl hown _ _ rfl hkey2 _ hat2 ?_)
     go_ret2
     rw [HR.out]
     exact ⟨wrap64 (-2 - x), true, _, sp, rfl, E1.out, Nat.le_refl _, hlen15, rfl, by rw [HW64B.out, hxi.out], (List.append_nil _).symm⟩
    | false =>
     go_wp2_with (at_lookup; refine wpList_lookup_b _ rfl _ _ _ rfl 3 4 lawC Try.underlying90 Try.underlying4 (zeroC _) B kk D rfl hown _ _ rfl hkey2 _ hat2 ?_)
     go_roundg k1
     case measure => omega
     case rel => exact ⟨i + 1, _, by first | rfl | (rw [hw64]; done), Lib.hid rfl, by omega, rfl, Lib.hid (by rw [← hcc.out, HCI.out, if_neg (by decide)])⟩
   ·have c6b0 : decide (x < (s.length : Int)) = false := decide_eq_false (by omega)
    have hk0 : gk = 0 := by omega
    subst hk0
    have HN := Lib.hid (show Q.closeP n k wd s.length (holdT t) (mayT s) = none by
     unfold Q.closeP
     rw [hgb, if_neg (by decide), ← hcc.out]
     rfl)
    clear hcc hgb hxi' hik hown HCL
    go_wp2
    go_loopg [13] k (fun kq v13 w' => ∃ (i : Nat) (x : Int), v13 = .int .i64 x ∧ Hid (x = (i : Int)) ∧ i + kq = k ∧ w' = W1)
    case atStart => exact ⟨0, 0, rfl, Lib.hid rfl, by omega, rfl⟩
    case round =>
     clear c6b0 hlt hxi
     obtain ⟨i2, y, rfl, hyi, hik2, hww⟩ := hrel
     subst wr
     have hyi' := hyi.out
     have d0' := eq_true (show 0 ≤ y by omega)
     have d0 : decide (0 ≤ y) = true := decide_eq_true (by omega)
     obtain ⟨ji5, hji5⟩ : ∃ j_ : Int, (shr .i64 (kn : Int) y) = j_ := ⟨_, rfl⟩
     have hji5_ : ((kn : Int) / 2 ^ min y.toNat 64) = ji5 := hji5
     have hf64 : y ≤ 64 := by omega
     have hji5z : y ≤ 64 → ((kn : Int) / 2 ^ y.toNat) = ji5 := shr_small hji5
     have hbit : (Go.bits .and .i64 ji5 1 == 1) = decide (i2 < k) := by
      rw [← hji5, hyi', shr_and1 kn i2 (by omega) (by omega)]
      have e : bitN kn i2 = 1 ↔ i2 < k := by
       rw [bit_test, ← HKN.out, Nat.testBit_two_pow_sub_one, decide_eq_true_iff]
      rw [Bool.eq_iff_iff, beq_iff_eq, decide_eq_true_iff, ← e]
      omega
     by_cases hlt2 : i2 < k
     ·rw [decide_eq_true hlt2] at hbit
      cases gk with
      | zero => omega
      | succ k1 =>
      have hw64 : wrap64 (y + 1) = ((i2 + 1 : Nat) : Int) := by rw [hyi', Go.Proofs.Ytcaogllnbpmcgaa.M.w64 (by omega) (by omega)]; omega
      clear hyi' hji5
      go_wp2
      go_roundg k1
      case measure => omega
      case rel => exact ⟨i2 + 1, _, by first | rfl | (rw [hw64]; done), Lib.hid rfl, by omega, rfl⟩
     ·rw [decide_eq_false hlt2] at hbit
      obtain rfl : k = i2 := by omega
      have hyk : y = ((k : Nat) : Int) := hyi'
      cases d with
      | zero =>
       have d2 : decide ((n : Int) ≤ y) = true := decide_eq_true (by omega)
       have HR := Lib.hid (show G = none by
        rw [← HG.out]
        exact Q.growQ_zero HN.out)
       clear hyi' hyk hji5 HI
       go_wp2
       go_ret2
       rw [HR.out]
       exact ⟨0, false, _, sp, rfl, E1.out, Nat.le_refl _, hlen15, rfl⟩
      | succ d =>
       have d2 : decide ((n : Int) ≤ y) = false := decide_eq_false (by omega)
       have hspd := HSP.out
       have hp1 := Nat.two_pow_pos d
       have hpd : 2 ^ (d + 1) = 2 * 2 ^ d := by rw [Nat.pow_succ]; omega
       have hsp1 : sp.length + 1 + 2 ^ d ≤ 16 := by omega
       have hlen14 : sp.length ≤ 14 := by omega
       have HSP1 := Lib.hid hsp1
       have d3 : decide (15 ≤ (sp.length : Int)) = false := decide_eq_false (by omega)
       have info93 : (Try.prog.info? 93).map (fun i => (i.zero, i.size, i.bytes)) = some (some (.agg #[(.int .i64 0), (.int .i64 0), (.int .i64 0)]), 3, 24) := by kernel_rfl
       obtain ⟨sp1, hs1⟩ : ∃ l : List Q.Sp, sp ++ [(⟨y, 0, 0⟩ : S93)] = l := ⟨_, rfl⟩
       have hl1 := Lib.hid (show sp1.length = sp.length + 1 by rw [← hs1, List.length_append]; rfl)
       have HS1 := Lib.hid hs1
       obtain ⟨k2, hk2⟩ : ∃ k2 : Nat, 2 ^ (k + 1) - 1 = k2 := ⟨_, rfl⟩
       obtain ⟨wn, hwn⟩ : ∃ wn : Nat, wd + 2 ^ k = wn := ⟨_, rfl⟩
       obtain ⟨ji6, hji6⟩ : ∃ j_ : Int, (shl .i64 1 y) = j_ := ⟨_, rfl⟩
       have hji6_ : (IntKind.i64.wrap (1 * 2 ^ min y.toNat 64)) = ji6 := hji6
       have hji6z : y ≤ 64 → (IntKind.i64.wrap (1 * 2 ^ y.toNat)) = ji6 := shl_small hji6
       have hji6u : (IntKind.i64.wrap (2 ^ min y.toNat 64)) = ji6 := by have h_ := hji6_; rw [Int.one_mul] at h_; exact h_
       have hji6v : y ≤ 64 → (IntKind.i64.wrap (2 ^ y.toNat)) = ji6 := fun hle_ => by have h_ := hji6z hle_; rw [Int.one_mul] at h_; exact h_
       have hji6y : (wrap64 (1 * 2 ^ min y.toNat 64)) = ji6 := (i64_w _).symm.trans hji6_
       have hji6x : y ≤ 64 → (wrap64 (1 * 2 ^ y.toNat)) = ji6 := fun h_ => (i64_w _).symm.trans (hji6z h_)
       obtain ⟨hor, hor2, hw1_, hw2_⟩ := node_bits (k := k) (ji := ji6) (by omega) HKN.out HWD.out hk2 hwn (by rw [← hyk]; exact hji6)
       have hW1 := Lib.hid hw1_
       have HYK := Lib.hid hyk
       have hW2 := Lib.hid hw2_
       have hJ := HI.out d rfl
       rw [hk2] at hJ
       have HJ := Lib.hid hJ
       have HWN := Lib.hid hwn
       clear hspd hpd hsp1 hp1 hyi' hji5 hji6 hk2 hJ HI hwn hw1_ hw2_ hyk
       go_upto_region 17 with ((with_reducible refine gate_builtin (b := .append) (xs := #[.tmp 57, .tmp 60]) rfl ?_); at_builtin; refine Kd.R_append k93 (w0 := w0) w0.heap.size rfl (.tmp 57) (.tmp 60) 49 93 (.agg #[(.int .i64 0), (.int .i64 0), (.int .i64 0)]) 24 rfl Try.underlying49 info93 rfl (by decide) (by omega) (.slice Ao sp.length co) sp (⟨y, 0, 0⟩ : S93) [.int .i64 y, .int .i64 0, .int .i64 0] (fun _ => True) (fun _ => False) rfl (by first | (go_simp; done) | (go_simp; rfl)) ?aP (fun _ hk => hk.elim) ?aF ?aO ?aB ?aS ?aL ?_; (case aP => exact k93_mkM _ _ _ (⟨y, 0, 0⟩ : S93)); (case aF => exact fun _ _ => trivial); (case aO => exact E1.out.hr); (case aB => exact E1.out.hb); (case aS => exact E1.out.hb.size); (case aL => omega); intro v1 w2 hR2 hb2 hg2 _; rw [hs1] at hR2; obtain ⟨Av, cv, ev⟩ := Kd.R_slice hR2; subst ev; have hq2 := blk_grown E1.out.hq hg2 (Kd.R_ne E1.out.hr E1.out.hq (by decide)); have q2 : w2.cell? ⟨b3, 1, none⟩ = some (.slice Ao sp.length co) := (blk_cell hq2 1).trans rfl; have fq2 := blk_frozen hq2 1; have E2 := Lib.hid (E1.out.append hg2 hR2 hb2); clear hq2 hg2 hb2 hR2)
       obtain ⟨W3, hW3⟩ : ∃ W3, w2.setCell ⟨b3, 1, none⟩ (.slice Av sp1.length cv) = W3 := ⟨_, rfl⟩
       rw [hW3] at E2 ⊢
       clear hW3 q2 fq2 y1 y0 y3 info93 hs1
       have y5 := cell_of_one E2.out.hf
       refine start_ (n := 12) (S := fun w' => w'.cell? ⟨b5, 0, none⟩ = some (.func (.func 66) #[] #[ptr b0, ptr b1, ptr b2, ptr b3, ptr b5])) (ds := []) #[false, false, false, false, false, false, false, false, false, false, false, false] (by kernel_rfl) rfl rfl y5 (fun hHeld => ?_)
       have E3 := Lib.hid (E2.out.below (below_drew1 (Below.refl _ _)))
       clear y5 E2
       generalize W3.drew = W4 at E3 hHeld ⊢
       have T1 := Lib.hid (HJ.out wd _ sp1 W4 hW1.out (by rw [hl1.out]; exact HSP1.out) E3.out)
       refine pure_ (i := 1) (N := some 65) (v := ?_) (a' := ?_) #[false, true, false, false, false, false, false, false, false, false, false, false] rfl rfl (by kernel_rfl) (fun _ _ _ h => h) (Or.inl ⟨by rfl, ?_⟩) ?_ ?_
       rotate_left
       ·intro w'
        go_simp
        with_reducible rfl
       rotate_left
       ·simp only [Act.put, z0_, z1_, z2_, i64_w, i32_w]
        rfl
       refine pure_ (i := 2) (N := some 66) (v := ?_) (a' := ?_) #[false, true, true, false, false, false, false, false, false, false, false, false] rfl rfl (by kernel_rfl) (fun _ _ _ h => h) (Or.inl ⟨by rfl, ?_⟩) ?_ ?_
       rotate_left
       ·intro w'
        go_simp
        with_reducible rfl
       rotate_left
       ·simp only [Act.put, z0_, z1_, z2_, i64_w, i32_w]
        rfl
       refine pure_ (i := 5) (N := some 69) (v := ?_) (a' := ?_) #[false, true, true, false, false, true, false, false, false, false, false, false] rfl rfl (by kernel_rfl) (fun _ _ _ h => h) (Or.inl ⟨by rfl, ?_⟩) ?_ ?_
       rotate_left
       ·intro w'
        go_simp
        with_reducible rfl
       rotate_left
       ·simp only [Act.put, z0_, z1_, z2_, i64_w, i32_w]
        rfl
       refine pure_ (i := 3) (N := some 67) (v := ?_) (a' := ?_) #[false, true, true, true, false, true, false, false, false, false, false, false] rfl rfl (by kernel_rfl) (fun _ _ _ h => h) (Or.inl ⟨by rfl, ?_⟩) ?_ ?_
       rotate_left
       ·intro w'
        go_simp
        with_reducible rfl
       rotate_left
       ·simp only [Act.put, z0_, z1_, z2_, i64_w, i32_w]
        rfl
       refine pure_ (i := 4) (N := some 68) (v := ?_) (a' := ?_) #[false, true, true, true, true, true, false, false, false, false, false, false] rfl rfl (by kernel_rfl) (fun _ _ _ h => h) (Or.inl ⟨by rfl, ?_⟩) ?_ ?_
       rotate_left
       ·intro w'
        go_simp
        with_reducible rfl
       rotate_left
       ·simp only [Act.put, z0_, z1_, z2_, i64_w, i32_w]
        rfl
       refine take_ (i := 0) (N := some 64) (v := ?_) (a' := ?_) #[true, true, true, true, true, true, false, false, false, false, false, false] rfl rfl (by kernel_rfl) (fun _ _ _ h => h) (Or.inl ⟨by rfl, ?_⟩) hHeld ?_ ?_
       rotate_left
       ·rintro w' s0
        go_simp
        with_reducible rfl
       rotate_left
       ·simp only [Act.put, z0_, z1_, z2_, i64_w, i32_w]
        rfl
       refine one_ (i := 6) (N := some 70) #[true, true, true, true, true, true, true, false, false, false, false, false] rfl rfl (by kernel_rfl) (by decide) (fun K hK => ?_)
       refine goesV_ (x := .tmp 64) Try.func66 (by kernel_rfl) rfl #[.int .i64 (k2 : Int), .int .i64 (wd : Int), ptr b0, ptr b1, ptr b2, ptr b3, ptr b5] (by rfl) rfl rfl (by rfl) (by (try simp only [List.map_toArray, List.map_cons, List.map_nil]); first | done | rfl) ?_
       refine T1.out.mono ?_
       rintro e W5 ⟨at1, ok1, v5, sp5, rfl, E5_, hl5_, hm5_, hG5_⟩
       have E5 := Lib.hid E5_
       have hl5 := Lib.hid hl5_
       have hm5 := Lib.hid hm5_
       have hG5 := Lib.hid hG5_
       clear E5_ hl5_ hm5_ hG5_ T1 E3
       refine ⟨_, rfl, ?_⟩
       refine hK.out _ _ (cell_of_one E5.out.hf) (fun hHeld => ?_)
       clear hK K
       refine norm_ (a' := ?_) ?_ ?_
       rotate_left
       ·show Act.put _ (some 70) _ = _
        simp only [Act.put, z0_, z1_, z2_, i64_w, i32_w]
        rfl
       refine pure_ (i := 7) (N := some 63) (v := ?_) (a' := ?_) #[true, true, true, true, true, true, true, true, false, false, false, false] rfl rfl (by kernel_rfl) (fun _ _ _ h => h) (Or.inl ⟨by rfl, ?_⟩) ?_ ?_
       rotate_left
       ·intro w'
        go_simp
        with_reducible rfl
       rotate_left
       ·simp only [Act.put, z0_, z1_, z2_, i64_w, i32_w]
        rfl
       refine pure_ (i := 8) (N := some 71) (v := ?_) (a' := ?_) #[true, true, true, true, true, true, true, true, true, false, false, false] rfl rfl (by kernel_rfl) (fun _ _ _ h => h) (Or.inl ⟨by rfl, ?_⟩) ?_ ?_
       rotate_left
       ·intro w'
        go_simp
        with_reducible rfl
       rotate_left
       ·simp only [Act.put, z0_, z1_, z2_, i64_w, i32_w]
        rfl
       refine pure_ (i := 9) (N := some 72) (v := ?_) (a' := ?_) #[true, true, true, true, true, true, true, true, true, true, false, false] rfl rfl (by kernel_rfl) (fun _ _ _ h => h) (Or.inl ⟨by rfl, ?_⟩) ?_ ?_
       rotate_left
       ·intro w'
        go_simp
        with_reducible rfl
       rotate_left
       ·simp only [Act.put, z0_, z1_, z2_, i64_w, i32_w]
        rfl
       refine pure_ (i := 10) (N := some 15) (v := ?_) (a' := ?_) #[true, true, true, true, true, true, true, true, true, true, true, false] rfl rfl (by kernel_rfl) (fun _ _ _ h => h) (Or.inl ⟨by rfl, ?_⟩) ?_ ?_
       rotate_left
       ·intro w'
        go_simp
        with_reducible rfl
       rotate_left
       ·simp only [Act.put, z0_, z1_, z2_, i64_w, i32_w]
        rfl
       refine pure_ (i := 11) (N := some 16) (v := ?_) (a' := ?_) #[true, true, true, true, true, true, true, true, true, true, true, true] rfl rfl (by kernel_rfl) (fun _ _ _ h => h) (Or.inl ⟨by rfl, ?_⟩) ?_ ?_
       rotate_left
       ·intro w'
        go_simp
        with_reducible rfl
       rotate_left
       ·simp only [Act.put, z0_, z1_, z2_, i64_w, i32_w]
        rfl
       refine done_ (by kernel_rfl) ?_
       cases ok1 with
       | false =>
        have HR := Lib.hid (show G = none by
         rw [← HG.out]
         refine Q.growQ_no HN.out ?_
         have hG := hG5.out
         unfold grQ at hG
         rw [hl1.out] at hG
         cases hq : Q.growQ n s.length (holdT t) (mayT s) d (k + 1) wd (sp.length + 1) with
         | none => rfl
         | some x => rw [hq] at hG; exact absurd hG.1 Bool.false_ne_true)
        clear hG5
        have hi5 : sp.length < sp5.length := by have := hl1.out; have := hl5.out; omega
        go_wp2
        have E7 := Lib.hid (E5.out.below (below_drew1 (Below.refl _ _)))
        obtain ⟨⟨f0, f1, f2⟩, hee_⟩ : ∃ q, sp5.getD sp.length Q.zS = q := ⟨_, rfl⟩
        have hee := Lib.hid hee_
        obtain ⟨g, c, hv, ⟨yy, hyy⟩, hfz, hgne, E8⟩ := E7.out.no sp.length hi5 f0 f1 f2 hee_ at1
        subst hv
        have he8 : (sp5.set sp.length ⟨f0, at1, f2⟩).getD sp.length Q.zS = ⟨f0, at1, f2⟩ := by rw [List.getD_eq_getElem?_getD, List.getElem?_set_self hi5]; rfl
        obtain ⟨g', c', hv', ⟨y9, hy9⟩, hf9, _, E9⟩ := E8.yes sp.length (by rw [List.length_set]; exact hi5) f0 at1 f2 he8 0
        rw [List.length_set] at hv'
        injection hv' with ha_ _ _
        injection ha_ with ha_
        injection ha_ with ha_
        subst ha_
        obtain ⟨g9, c9_, hv9, ⟨y8, hy8⟩, hf8, _, _⟩ := E5.out.yes sp.length hi5 f0 f1 f2 hee_ at1
        injection hv9 with hb_ _ _
        injection hb_ with hb_
        injection hb_ with hb_
        subst hb_
        have HE8 := Lib.hid E8
        have HE9 := Lib.hid E9
        clear E8 E9 hee_ he8
        have hq7 : W5.drew.cell? ⟨b3, 1, none⟩ = some (.slice (some ⟨g, 0, none⟩) sp5.length c) := (blk_cell E7.out.hq 1).trans rfl
        have hia : decide (sp.length < sp5.length) = true := decide_eq_true hi5
        refine start_ (n := 14) (S := fun w' => w'.cell? ⟨b3, 1, none⟩ = some (.slice (some ⟨g, 0, none⟩) sp5.length c)) (ds := []) #[false, false, false, false, false, false, false, false, false, false, false, false, false, false] (by kernel_rfl) rfl rfl hq7 (fun hHeld => ?_)
        refine pure_ (i := 0) (N := some 87) (v := ?_) (a' := ?_) #[true, false, false, false, false, false, false, false, false, false, false, false, false, false] rfl rfl (by kernel_rfl) (fun _ _ _ h => h) (Or.inl ⟨by rfl, ?_⟩) ?_ ?_
        rotate_left
        ·intro w'
         go_simp
         with_reducible rfl
        rotate_left
        ·simp only [Act.put, z0_, z1_, z2_, i64_w, i32_w]
         rfl
        refine pure_ (i := 2) (N := some 89) (v := ?_) (a' := ?_) #[true, false, true, false, false, false, false, false, false, false, false, false, false, false] rfl rfl (by kernel_rfl) (fun _ _ _ h => h) (Or.inl ⟨by rfl, ?_⟩) ?_ ?_
        rotate_left
        ·intro w'
         go_simp
         with_reducible rfl
        rotate_left
        ·simp only [Act.put, z0_, z1_, z2_, i64_w, i32_w]
         rfl
        refine pure_ (i := 3) (N := some 90) (v := ?_) (a' := ?_) #[true, false, true, true, false, false, false, false, false, false, false, false, false, false] rfl rfl (by kernel_rfl) (fun _ _ _ h => h) (Or.inl ⟨by rfl, ?_⟩) ?_ ?_
        rotate_left
        ·intro w'
         go_simp
         with_reducible rfl
        rotate_left
        ·simp only [Act.put, z0_, z1_, z2_, i64_w, i32_w]
         rfl
        refine pure_ (i := 5) (N := some 92) (v := ?_) (a' := ?_) #[true, false, true, true, false, true, false, false, false, false, false, false, false, false] rfl rfl (by kernel_rfl) (fun _ _ _ h => h) (Or.inl ⟨by rfl, ?_⟩) ?_ ?_
        rotate_left
        ·intro w'
         go_simp
         with_reducible rfl
        rotate_left
        ·simp only [Act.put, z0_, z1_, z2_, i64_w, i32_w]
         rfl
        refine pure_ (i := 6) (N := some 93) (v := ?_) (a' := ?_) #[true, false, true, true, false, true, true, false, false, false, false, false, false, false] rfl rfl (by kernel_rfl) (fun _ _ _ h => h) (Or.inl ⟨by rfl, ?_⟩) ?_ ?_
        rotate_left
        ·intro w'
         go_simp
         with_reducible rfl
        rotate_left
        ·simp only [Act.put, z0_, z1_, z2_, i64_w, i32_w]
         rfl
        refine pure_ (i := 7) (N := some 94) (v := ?_) (a' := ?_) #[true, false, true, true, false, true, true, true, false, false, false, false, false, false] rfl rfl (by kernel_rfl) (fun _ _ _ h => h) (Or.inl ⟨by rfl, ?_⟩) ?_ ?_
        rotate_left
        ·intro w'
         go_simp
         with_reducible rfl
        rotate_left
        ·simp only [Act.put, z0_, z1_, z2_, i64_w, i32_w]
         rfl
        refine take_ (i := 1) (N := some 88) (v := ?_) (a' := ?_) #[true, true, true, true, false, true, true, true, false, false, false, false, false, false] rfl rfl (by kernel_rfl) (fun _ _ _ h => h) (Or.inl ⟨by rfl, ?_⟩) hHeld ?_ ?_
        rotate_left
        ·rintro w' s0
         go_simp
         with_reducible rfl
        rotate_left
        ·simp only [Act.put, z0_, z1_, z2_, i64_w, i32_w]
         rfl
        refine take_ (i := 4) (N := some 91) (v := ?_) (a' := ?_) #[true, true, true, true, true, true, true, true, false, false, false, false, false, false] rfl rfl (by kernel_rfl) (fun _ _ _ h => h) (Or.inl ⟨by rfl, ?_⟩) hHeld ?_ ?_
        rotate_left
        ·rintro w' s0
         go_simp
         with_reducible rfl
        rotate_left
        ·simp only [Act.put, z0_, z1_, z2_, i64_w, i32_w]
         rfl
        refine pure_ (i := 8) (N := some 95) (v := ?_) (a' := ?_) #[true, true, true, true, true, true, true, true, true, false, false, false, false, false] rfl rfl (by kernel_rfl) (fun _ _ _ h => h) (Or.inl ⟨by rfl, ?_⟩) ?_ ?_
        rotate_left
        ·intro w'
         go_simp
         with_reducible rfl
        rotate_left
        ·simp only [Act.put, z0_, z1_, z2_, i64_w, i32_w]
         rfl
        refine pure_ (i := 9) (N := some 96) (v := ?_) (a' := ?_) #[true, true, true, true, true, true, true, true, true, true, false, false, false, false] rfl rfl (by kernel_rfl) (fun _ _ _ h => h) (Or.inl ⟨by rfl, ?_⟩) ?_ ?_
        rotate_left
        ·intro w'
         go_simp
         with_reducible rfl
        rotate_left
        ·simp only [Act.put, z0_, z1_, z2_, i64_w, i32_w]
         rfl
        refine one_ (i := 10) (N := none) #[true, true, true, true, true, true, true, true, true, true, true, false, false, false] rfl rfl (by kernel_rfl) (by decide) (fun K hK => ?_)
        refine skip_ (by rfl) rfl (w1 := W5.drew.setCell ⟨g, sp.length * 3 + 1, none⟩ (.int .i64 at1)) (by first | (go_simp; done) | (go_simp; rfl)) ?_
        have hq8 : (W5.drew.setCell ⟨g, sp.length * 3 + 1, none⟩ (.int .i64 at1)).cell? ⟨b3, 1, none⟩ = some (.slice (some ⟨g, 0, none⟩) sp5.length c) := (blk_cell HE8.out.hq 1).trans rfl
        refine hK.out _ _ hq8 (fun hHeld => ?_)
        clear hK K
        refine norm_ (a' := ?_) ?_ ?_
        rotate_left
        ·show Act.put _ none _ = _
         simp only [Act.put]
         rfl
        refine pure_ (i := 11) (N := some 97) (v := ?_) (a' := ?_) #[true, true, true, true, true, true, true, true, true, true, true, true, false, false] rfl rfl (by kernel_rfl) (fun _ _ _ h => h) (Or.inl ⟨by rfl, ?_⟩) ?_ ?_
        rotate_left
        ·intro w'
         go_simp
         with_reducible rfl
        rotate_left
        ·simp only [Act.put, z0_, z1_, z2_, i64_w, i32_w]
         rfl
        refine pure_ (i := 12) (N := some 98) (v := ?_) (a' := ?_) #[true, true, true, true, true, true, true, true, true, true, true, true, true, false] rfl rfl (by kernel_rfl) (fun _ _ _ h => h) (Or.inl ⟨by rfl, ?_⟩) ?_ ?_
        rotate_left
        ·intro w'
         go_simp
         with_reducible rfl
        rotate_left
        ·simp only [Act.put, z0_, z1_, z2_, i64_w, i32_w]
         rfl
        refine one_ (i := 13) (N := none) #[true, true, true, true, true, true, true, true, true, true, true, true, true, true] rfl rfl (by kernel_rfl) (by decide) (fun K hK => ?_)
        refine skip_ (by rfl) rfl (w1 := (W5.drew.setCell ⟨g, sp.length * 3 + 1, none⟩ (.int .i64 at1)).setCell ⟨g, sp.length * 3 + 2, none⟩ (.int .i64 0)) (by first | (go_simp; done) | (go_simp; rfl)) ?_
        have E9 := HE9.out
        refine hK.out _ _ ((blk_cell E9.hq 1).trans rfl) (fun hHeld => ?_)
        clear hK K
        refine norm_ (a' := ?_) ?_ ?_
        rotate_left
        ·show Act.put _ none _ = _
         simp only [Act.put]
         rfl
        refine done_ (by kernel_rfl) ?_
        go_wp2
        go_ret2
        rw [HR.out]
        exact ⟨_, false, _, _, rfl, E9, by rw [List.length_set, List.length_set]; omega, by rw [List.length_set, List.length_set]; exact hm5.out, rfl⟩
       | true =>
        obtain ⟨⟨a, x1⟩, hg1⟩ : ∃ q, Q.growQ n s.length (holdT t) (mayT s) d (k + 1) wd (sp.length + 1) = some q := by
         have hG := hG5.out
         unfold grQ at hG
         rw [hl1.out] at hG
         cases hq : Q.growQ n s.length (holdT t) (mayT s) d (k + 1) wd (sp.length + 1) with
         | none => rw [hq] at hG; exact Bool.noConfusion hG
         | some q => exact ⟨q, rfl⟩
        have hG5' := hG5.out
        unfold grQ at hG5'
        rw [hl1.out, hg1] at hG5'
        obtain ⟨_, hax, hs5⟩ := hG5'
        have hal := Q.grow_len n s.length (holdT t) (mayT s) d (k + 1) wd _ a x1 hg1
        have hl5' : sp5.length = sp.length + 1 + a.length := by rw [hs5, List.length_append, hl1.out]
        have hsp5 : sp5.length + 2 ^ d ≤ 16 := by
         have h2 := HSP.out
         rw [Nat.pow_succ] at h2
         omega
        have HSP5 := Lib.hid hsp5
        have HG1 := Lib.hid hg1
        have HAX := Lib.hid hax
        have HS5 := Lib.hid hs5
        have HL5 := Lib.hid hl5'
        have T2 := Lib.hid (fun W E => HJ.out wn v5 sp5 W hW2.out hsp5 E)
        clear hG5 hax hs5 hal hl5' hsp5 hg1 HJ
        go_wp2
        refine start_ (n := 15) (S := fun w' => w'.cell? ⟨b5, 0, none⟩ = some (.func (.func 66) #[] #[ptr b0, ptr b1, ptr b2, ptr b3, ptr b5])) (ds := []) #[false, false, false, false, false, false, false, false, false, false, false, false, false, false, false] (by kernel_rfl) rfl rfl (cell_of_one E5.out.hf) (fun hHeld => ?_)
        have E51 := Lib.hid (E5.out.below (below_drew1 (Below.refl _ _)))
        clear E5
        generalize W5.drew = W51 at E51 hHeld ⊢
        refine pure_ (i := 1) (N := some 76) (v := ?_) (a' := ?_) #[false, true, false, false, false, false, false, false, false, false, false, false, false, false, false] rfl rfl (by kernel_rfl) (fun _ _ _ h => h) (Or.inl ⟨by rfl, ?_⟩) ?_ ?_
        rotate_left
        ·intro w'
         go_simp
         with_reducible rfl
        rotate_left
        ·simp only [Act.put, z0_, z1_, z2_, i64_w, i32_w]
         rfl
        refine pure_ (i := 2) (N := some 77) (v := ?_) (a' := ?_) #[false, true, true, false, false, false, false, false, false, false, false, false, false, false, false] rfl rfl (by kernel_rfl) (fun _ _ _ h => h) (Or.inl ⟨by rfl, ?_⟩) ?_ ?_
        rotate_left
        ·intro w'
         go_simp
         with_reducible rfl
        rotate_left
        ·simp only [Act.put, z0_, z1_, z2_, i64_w, i32_w]
         rfl
        refine pure_ (i := 5) (N := some 80) (v := ?_) (a' := ?_) #[false, true, true, false, false, true, false, false, false, false, false, false, false, false, false] rfl rfl (by kernel_rfl) (fun _ _ _ h => h) (Or.inl ⟨by rfl, ?_⟩) ?_ ?_
        rotate_left
        ·intro w'
         go_simp
         with_reducible rfl
        rotate_left
        ·simp only [Act.put, z0_, z1_, z2_, i64_w, i32_w]
         rfl
        refine pure_ (i := 6) (N := some 81) (v := ?_) (a' := ?_) #[false, true, true, false, false, true, true, false, false, false, false, false, false, false, false] rfl rfl (by kernel_rfl) (fun _ _ _ h => h) (Or.inl ⟨by rfl, ?_⟩) ?_ ?_
        rotate_left
        ·intro w'
         go_simp
         with_reducible rfl
        rotate_left
        ·simp only [Act.put, z0_, z1_, z2_, i64_w, i32_w]
         rfl
        refine pure_ (i := 3) (N := some 78) (v := ?_) (a' := ?_) #[false, true, true, true, false, true, true, false, false, false, false, false, false, false, false] rfl rfl (by kernel_rfl) (fun _ _ _ h => h) (Or.inl ⟨by rfl, ?_⟩) ?_ ?_
        rotate_left
        ·intro w'
         go_simp
         with_reducible rfl
        rotate_left
        ·simp only [Act.put, z0_, z1_, z2_, i64_w, i32_w]
         rfl
        refine pure_ (i := 7) (N := some 82) (v := ?_) (a' := ?_) #[false, true, true, true, false, true, true, true, false, false, false, false, false, false, false] rfl rfl (by kernel_rfl) (fun _ _ _ h => h) (Or.inl ⟨by rfl, ?_⟩) ?_ ?_
        rotate_left
        ·intro w'
         go_simp
         with_reducible rfl
        rotate_left
        ·simp only [Act.put, z0_, z1_, z2_, i64_w, i32_w]
         rfl
        refine pure_ (i := 4) (N := some 79) (v := ?_) (a' := ?_) #[false, true, true, true, true, true, true, true, false, false, false, false, false, false, false] rfl rfl (by kernel_rfl) (fun _ _ _ h => h) (Or.inl ⟨by rfl, ?_⟩) ?_ ?_
        rotate_left
        ·intro w'
         go_simp
         with_reducible rfl
        rotate_left
        ·simp only [Act.put, z0_, z1_, z2_, i64_w, i32_w]
         rfl
        refine pure_ (i := 8) (N := some 83) (v := ?_) (a' := ?_) #[false, true, true, true, true, true, true, true, true, false, false, false, false, false, false] rfl rfl (by kernel_rfl) (fun _ _ _ h => h) (Or.inl ⟨by rfl, ?_⟩) ?_ ?_
        rotate_left
        ·intro w'
         go_simp
         with_reducible rfl
        rotate_left
        ·simp only [Act.put, z0_, z1_, z2_, i64_w, i32_w]
         rfl
        refine take_ (i := 0) (N := some 75) (v := ?_) (a' := ?_) #[true, true, true, true, true, true, true, true, true, false, false, false, false, false, false] rfl rfl (by kernel_rfl) (fun _ _ _ h => h) (Or.inl ⟨by rfl, ?_⟩) hHeld ?_ ?_
        rotate_left
        ·rintro w' s0
         go_simp
         with_reducible rfl
        rotate_left
        ·simp only [Act.put, z0_, z1_, z2_, i64_w, i32_w]
         rfl
        refine one_ (i := 9) (N := some 84) #[true, true, true, true, true, true, true, true, true, true, false, false, false, false, false] rfl rfl (by kernel_rfl) (by decide) (fun K hK => ?_)
        refine goesV_ (x := .tmp 75) Try.func66 (by kernel_rfl) rfl #[.int .i64 (k2 : Int), .int .i64 (wn : Int), ptr b0, ptr b1, ptr b2, ptr b3, ptr b5] (by rfl) rfl rfl (by rfl) (by (try simp only [List.map_toArray, List.map_cons, List.map_nil]); first | done | rfl) ?_
        refine (T2.out W51 E51.out).mono ?_
        rintro e W6 ⟨at2, ok2, v6, sp6, rfl, E6_, hl6_, hm6_, hG6_⟩
        have E6 := Lib.hid E6_
        have hl6 := Lib.hid hl6_
        have hm6 := Lib.hid hm6_
        have hG6 := Lib.hid hG6_
        clear E6_ hl6_ hm6_ hG6_ T2 E51
        refine ⟨_, rfl, ?_⟩
        refine hK.out _ _ (cell_of_one E6.out.hf) (fun hHeld => ?_)
        clear hK K
        refine norm_ (a' := ?_) ?_ ?_
        rotate_left
        ·show Act.put _ (some 84) _ = _
         simp only [Act.put, z0_, z1_, z2_, i64_w, i32_w]
         rfl
        refine pure_ (i := 10) (N := some 74) (v := ?_) (a' := ?_) #[true, true, true, true, true, true, true, true, true, true, true, false, false, false, false] rfl rfl (by kernel_rfl) (fun _ _ _ h => h) (Or.inl ⟨by rfl, ?_⟩) ?_ ?_
        rotate_left
        ·intro w'
         go_simp
         with_reducible rfl
        rotate_left
        ·simp only [Act.put, z0_, z1_, z2_, i64_w, i32_w]
         rfl
        refine pure_ (i := 11) (N := some 85) (v := ?_) (a' := ?_) #[true, true, true, true, true, true, true, true, true, true, true, true, false, false, false] rfl rfl (by kernel_rfl) (fun _ _ _ h => h) (Or.inl ⟨by rfl, ?_⟩) ?_ ?_
        rotate_left
        ·intro w'
         go_simp
         with_reducible rfl
        rotate_left
        ·simp only [Act.put, z0_, z1_, z2_, i64_w, i32_w]
         rfl
        refine pure_ (i := 12) (N := some 86) (v := ?_) (a' := ?_) #[true, true, true, true, true, true, true, true, true, true, true, true, true, false, false] rfl rfl (by kernel_rfl) (fun _ _ _ h => h) (Or.inl ⟨by rfl, ?_⟩) ?_ ?_
        rotate_left
        ·intro w'
         go_simp
         with_reducible rfl
        rotate_left
        ·simp only [Act.put, z0_, z1_, z2_, i64_w, i32_w]
         rfl
        refine pure_ (i := 13) (N := some 17) (v := ?_) (a' := ?_) #[true, true, true, true, true, true, true, true, true, true, true, true, true, true, false] rfl rfl (by kernel_rfl) (fun _ _ _ h => h) (Or.inl ⟨by rfl, ?_⟩) ?_ ?_
        rotate_left
        ·intro w'
         go_simp
         with_reducible rfl
        rotate_left
        ·simp only [Act.put, z0_, z1_, z2_, i64_w, i32_w]
         rfl
        refine pure_ (i := 14) (N := some 18) (v := ?_) (a' := ?_) #[true, true, true, true, true, true, true, true, true, true, true, true, true, true, true] rfl rfl (by kernel_rfl) (fun _ _ _ h => h) (Or.inl ⟨by rfl, ?_⟩) ?_ ?_
        rotate_left
        ·intro w'
         go_simp
         with_reducible rfl
        rotate_left
        ·simp only [Act.put, z0_, z1_, z2_, i64_w, i32_w]
         rfl
        refine done_ (by kernel_rfl) ?_
        have hi5 : sp.length < sp6.length := by have := hl6.out; have := HL5.out; omega
        go_wp2
        have E7 := Lib.hid (E6.out.below (below_drew1 (Below.refl _ _)))
        obtain ⟨⟨f0, f1, f2⟩, hee_⟩ : ∃ q, sp6.getD sp.length Q.zS = q := ⟨_, rfl⟩
        have hee := Lib.hid hee_
        obtain ⟨g, c, hv, ⟨yy, hyy⟩, hfz, hgne, E8⟩ := E7.out.no sp.length hi5 f0 f1 f2 hee_ at1
        subst hv
        have he8 : (sp6.set sp.length ⟨f0, at1, f2⟩).getD sp.length Q.zS = ⟨f0, at1, f2⟩ := by rw [List.getD_eq_getElem?_getD, List.getElem?_set_self hi5]; rfl
        obtain ⟨g', c', hv', ⟨y9, hy9⟩, hf9, _, E9⟩ := E8.yes sp.length (by rw [List.length_set]; exact hi5) f0 at1 f2 he8 at2
        rw [List.length_set] at hv'
        injection hv' with ha_ _ _
        injection ha_ with ha_
        injection ha_ with ha_
        subst ha_
        obtain ⟨g9, c9_, hv9, ⟨y8, hy8⟩, hf8, _, _⟩ := E6.out.yes sp.length hi5 f0 f1 f2 hee_ at1
        injection hv9 with hb_ _ _
        injection hb_ with hb_
        injection hb_ with hb_
        subst hb_
        have HE8 := Lib.hid E8
        have HE9 := Lib.hid E9
        clear E8 E9 hee_ he8
        have hq7 : W6.drew.cell? ⟨b3, 1, none⟩ = some (.slice (some ⟨g, 0, none⟩) sp6.length c) := (blk_cell E7.out.hq 1).trans rfl
        have hia : decide (sp.length < sp6.length) = true := decide_eq_true hi5
        refine start_ (n := 14) (S := fun w' => w'.cell? ⟨b3, 1, none⟩ = some (.slice (some ⟨g, 0, none⟩) sp6.length c)) (ds := []) #[false, false, false, false, false, false, false, false, false, false, false, false, false, false] (by kernel_rfl) rfl rfl hq7 (fun hHeld => ?_)
        refine pure_ (i := 0) (N := some 87) (v := ?_) (a' := ?_) #[true, false, false, false, false, false, false, false, false, false, false, false, false, false] rfl rfl (by kernel_rfl) (fun _ _ _ h => h) (Or.inl ⟨by rfl, ?_⟩) ?_ ?_
        rotate_left
        ·intro w'
         go_simp
         with_reducible rfl
        rotate_left
        ·simp only [Act.put, z0_, z1_, z2_, i64_w, i32_w]
         rfl
        refine pure_ (i := 2) (N := some 89) (v := ?_) (a' := ?_) #[true, false, true, false, false, false, false, false, false, false, false, false, false, false] rfl rfl (by kernel_rfl) (fun _ _ _ h => h) (Or.inl ⟨by rfl, ?_⟩) ?_ ?_
        rotate_left
        ·intro w'
         go_simp
         with_reducible rfl
        rotate_left
        ·simp only [Act.put, z0_, z1_, z2_, i64_w, i32_w]
         rfl
        refine pure_ (i := 3) (N := some 90) (v := ?_) (a' := ?_) #[true, false, true, true, false, false, false, false, false, false, false, false, false, false] rfl rfl (by kernel_rfl) (fun _ _ _ h => h) (Or.inl ⟨by rfl, ?_⟩) ?_ ?_
        rotate_left
        ·intro w'
         go_simp
         with_reducible rfl
        rotate_left
        ·simp only [Act.put, z0_, z1_, z2_, i64_w, i32_w]
         rfl
        refine pure_ (i := 5) (N := some 92) (v := ?_) (a' := ?_) #[true, false, true, true, false, true, false, false, false, false, false, false, false, false] rfl rfl (by kernel_rfl) (fun _ _ _ h => h) (Or.inl ⟨by rfl, ?_⟩) ?_ ?_
        rotate_left
        ·intro w'
         go_simp
         with_reducible rfl
        rotate_left
        ·simp only [Act.put, z0_, z1_, z2_, i64_w, i32_w]
         rfl
        refine pure_ (i := 6) (N := some 93) (v := ?_) (a' := ?_) #[true, false, true, true, false, true, true, false, false, false, false, false, false, false] rfl rfl (by kernel_rfl) (fun _ _ _ h => h) (Or.inl ⟨by rfl, ?_⟩) ?_ ?_
        rotate_left
        ·intro w'
         go_simp
         with_reducible rfl
        rotate_left
        ·simp only [Act.put, z0_, z1_, z2_, i64_w, i32_w]
         rfl
        refine pure_ (i := 7) (N := some 94) (v := ?_) (a' := ?_) #[true, false, true, true, false, true, true, true, false, false, false, false, false, false] rfl rfl (by kernel_rfl) (fun _ _ _ h => h) (Or.inl ⟨by rfl, ?_⟩) ?_ ?_
        rotate_left
        ·intro w'
         go_simp
         with_reducible rfl
        rotate_left
        ·simp only [Act.put, z0_, z1_, z2_, i64_w, i32_w]
         rfl
        refine take_ (i := 1) (N := some 88) (v := ?_) (a' := ?_) #[true, true, true, true, false, true, true, true, false, false, false, false, false, false] rfl rfl (by kernel_rfl) (fun _ _ _ h => h) (Or.inl ⟨by rfl, ?_⟩) hHeld ?_ ?_
        rotate_left
        ·rintro w' s0
         go_simp
         with_reducible rfl
        rotate_left
        ·simp only [Act.put, z0_, z1_, z2_, i64_w, i32_w]
         rfl
        refine take_ (i := 4) (N := some 91) (v := ?_) (a' := ?_) #[true, true, true, true, true, true, true, true, false, false, false, false, false, false] rfl rfl (by kernel_rfl) (fun _ _ _ h => h) (Or.inl ⟨by rfl, ?_⟩) hHeld ?_ ?_
        rotate_left
        ·rintro w' s0
         go_simp
         with_reducible rfl
        rotate_left
        ·simp only [Act.put, z0_, z1_, z2_, i64_w, i32_w]
         rfl
        refine pure_ (i := 8) (N := some 95) (v := ?_) (a' := ?_) #[true, true, true, true, true, true, true, true, true, false, false, false, false, false] rfl rfl (by kernel_rfl) (fun _ _ _ h => h) (Or.inl ⟨by rfl, ?_⟩) ?_ ?_
        rotate_left
        ·intro w'
         go_simp
         with_reducible rfl
        rotate_left
        ·simp only [Act.put, z0_, z1_, z2_, i64_w, i32_w]
         rfl
        refine pure_ (i := 9) (N := some 96) (v := ?_) (a' := ?_) #[true, true, true, true, true, true, true, true, true, true, false, false, false, false] rfl rfl (by kernel_rfl) (fun _ _ _ h => h) (Or.inl ⟨by rfl, ?_⟩) ?_ ?_
        rotate_left
        ·intro w'
         go_simp
         with_reducible rfl
        rotate_left
        ·simp only [Act.put, z0_, z1_, z2_, i64_w, i32_w]
         rfl
        refine one_ (i := 10) (N := none) #[true, true, true, true, true, true, true, true, true, true, true, false, false, false] rfl rfl (by kernel_rfl) (by decide) (fun K hK => ?_)
        refine skip_ (by rfl) rfl (w1 := W6.drew.setCell ⟨g, sp.length * 3 + 1, none⟩ (.int .i64 at1)) (by first | (go_simp; done) | (go_simp; rfl)) ?_
        have hq8 : (W6.drew.setCell ⟨g, sp.length * 3 + 1, none⟩ (.int .i64 at1)).cell? ⟨b3, 1, none⟩ = some (.slice (some ⟨g, 0, none⟩) sp6.length c) := (blk_cell HE8.out.hq 1).trans rfl
        refine hK.out _ _ hq8 (fun hHeld => ?_)
        clear hK K
        refine norm_ (a' := ?_) ?_ ?_
        rotate_left
        ·show Act.put _ none _ = _
         simp only [Act.put]
         rfl
        refine pure_ (i := 11) (N := some 97) (v := ?_) (a' := ?_) #[true, true, true, true, true, true, true, true, true, true, true, true, false, false] rfl rfl (by kernel_rfl) (fun _ _ _ h => h) (Or.inl ⟨by rfl, ?_⟩) ?_ ?_
        rotate_left
        ·intro w'
         go_simp
         with_reducible rfl
        rotate_left
        ·simp only [Act.put, z0_, z1_, z2_, i64_w, i32_w]
         rfl
        refine pure_ (i := 12) (N := some 98) (v := ?_) (a' := ?_) #[true, true, true, true, true, true, true, true, true, true, true, true, true, false] rfl rfl (by kernel_rfl) (fun _ _ _ h => h) (Or.inl ⟨by rfl, ?_⟩) ?_ ?_
        rotate_left
        ·intro w'
         go_simp
         with_reducible rfl
        rotate_left
        ·simp only [Act.put, z0_, z1_, z2_, i64_w, i32_w]
         rfl
        refine one_ (i := 13) (N := none) #[true, true, true, true, true, true, true, true, true, true, true, true, true, true] rfl rfl (by kernel_rfl) (by decide) (fun K hK => ?_)
        refine skip_ (by rfl) rfl (w1 := (W6.drew.setCell ⟨g, sp.length * 3 + 1, none⟩ (.int .i64 at1)).setCell ⟨g, sp.length * 3 + 2, none⟩ (.int .i64 at2)) (by first | (go_simp; done) | (go_simp; rfl)) ?_
        have E9 := HE9.out
        refine hK.out _ _ ((blk_cell E9.hq 1).trans rfl) (fun hHeld => ?_)
        clear hK K
        refine norm_ (a' := ?_) ?_ ?_
        rotate_left
        ·show Act.put _ none _ = _
         simp only [Act.put]
         rfl
        refine done_ (by kernel_rfl) ?_
        go_wp2
        go_ret2
        have hG6' := hG6.out
        unfold grQ at hG6'
        rw [HL5.out, ← HWN.out] at hG6'
        cases hq : Q.growQ n s.length (holdT t) (mayT s) d (k + 1) (wd + 2 ^ k) (sp.length + 1 + a.length) with
        | none =>
         rw [hq] at hG6'
         have hR : G = none := by
          rw [← HG.out]
          exact Q.growQ_yes HN.out HG1.out hq
         rw [hR]
         exact ⟨_, ok2, _, _, rfl, E9, by rw [List.length_set, List.length_set]; omega, by rw [List.length_set, List.length_set]; exact hm6.out, hG6'⟩
        | some q =>
         obtain ⟨b, x2⟩ := q
         rw [hq] at hG6'
         obtain ⟨hok2, hax2, hs6⟩ := hG6'
         have hR : G = some (⟨(k : Int), x1, x2⟩ :: (a ++ b), (sp.length : Int)) := by
          rw [← HG.out]
          exact Q.growQ_both HN.out HG1.out hq
         rw [hR]
         refine ⟨_, ok2, _, _, rfl, E9, by rw [List.length_set, List.length_set]; omega, by rw [List.length_set, List.length_set]; exact hm6.out, hok2, rfl, ?_⟩
         exact found_shape sp a b y f0 f1 f2 at1 at2 x1 x2 k sp1 sp5 sp6 HYK.out HS1.out HS5.out hs6 HAX.out hax2 hee.out
end
end Go.Proofs.Ytcaogllnbpmcgaa.M


/- FindProof told, and the world in which its closure begins. (Function and type numbers of this seat stand in this text.) -/
set_option linter.unusedVariables false
set_option linter.unusedSimpArgs false
namespace Go.Proofs.Ytcaogllnbpmcgaa.M
open Go Go.RowKit Go.Proofs.YtcaogllnbpmcgaaW.PrintWords Go.Proofs.YtcaogllnbpmcgaaW.PrintLast Go.Proofs.YtcaogllnbpmcgaaW.PrintMore Go.Proofs.Ytcaogllnbpmcgaa.P
section
variable {n : Nat} {s : List Cl} {A1 : Option Addr} {c1 : Nat} {t : List Mk} {A2 : Option Addr} {c2 b0 b1 b2 b3 b5 bx : Nat} {cx : Array Value} {w0 W W' : World} {v : Value} {sp : List Q.Sp}
theorem find_calls (hC : Kd.C k38 w0 A1 s.length s) (hc : s.length ≤ c1) (hT : Kd.C k47 w0 A2 t.length t) (hct : t.length ≤ c2) (hS : StoryP (n : Int) s) (hP : TermP (n : Int) t) :
  ∀ (d k wd : Nat) (v : Value) (sp : List Q.Sp) (W : World), k + d = n → wd < 2 ^ k → sp.length + 2 ^ d ≤ 16 → FE n s A1 c1 t A2 c2 b0 b1 b2 b3 b5 bx cx w0 W v sp →
   Calls Try.prog 66 #[.int .i64 ((2 ^ k - 1 : Nat) : Int), .int .i64 (wd : Int), ptr b0, ptr b1, ptr b2, ptr b3, ptr b5] W (Found n s A1 c1 t A2 c2 b0 b1 b2 b3 b5 bx cx w0 (grQ n s t d k wd sp.length) sp) := by
 intro d
 induction d with
 | zero => exact fun k wd v sp W hk hwd hsp E => find_node E hC hc hT hct hS hP 0 k wd hk hwd hsp (fun d' h => by omega)
 | succ d ih =>
  exact fun k wd v sp W hk hwd hsp E => find_node E hC hc hT hct hS hP (d + 1) k wd hk hwd hsp (fun d' h wd v sp W h1 h2 E => by
   obtain rfl : d = d' := by omega
   exact ih (k + 1) wd v sp W (by omega) h1 h2 E)
/-- The captured variables and the result's box ahead of the test. -/
def fndW (n : Nat) (l : Nat) (A1 : Option Addr) (c1 m : Nat) (A2 : Option Addr) (c2 : Nat) (w : World) : World :=
 (((w.alloc (.cells #[.int .i64 (n : Int)] 3)).alloc (.cells #[.slice A1 l c1] 25)).alloc (.cells #[.slice A2 m c2] 36)).alloc (.cells #[.int .i64 0, .slice none 0 0] 51)
def fndW_ (n : Int) (l : Nat) (A1 : Option Addr) (c1 m : Nat) (A2 : Option Addr) (c2 : Nat) (w : World) : World :=
 (((w.alloc (.cells #[.int .i64 n] 3)).alloc (.cells #[.slice A1 l c1] 25)).alloc (.cells #[.slice A2 m c2] 36)).alloc (.cells #[.int .i64 0, .slice none 0 0] 51)
/-- .. and behind it: the proof, the closure. -/
def fndW2 (b0 b1 b2 : Nat) (W : World) : World :=
 (W.alloc (.cells #[.int .i64 0, .slice none 0 0] 51)).alloc (.cells #[.func (.func 66) #[] #[ptr b0, ptr b1, ptr b2, ptr W.heap.size, ptr (W.heap.size + 1)]] 89)
theorem FE.start (hb : Below (fndW n s.length A1 c1 t.length A2 c2 w0).heap.size (fndW n s.length A1 c1 t.length A2 c2 w0) W) :
  FE n s A1 c1 t A2 c2 w0.heap.size (w0.heap.size + 1) (w0.heap.size + 1 + 1) W.heap.size (W.heap.size + 1) (w0.heap.size + 1 + 1 + 1) #[.int .i64 0, .slice none 0 0] w0 (fndW2 w0.heap.size (w0.heap.size + 1) (w0.heap.size + 1 + 1) W) (.slice none 0 0) [] := by
 have hb0 : Below w0.heap.size w0 W := below_step (below_alloc (below_alloc (below_alloc (below_alloc (Below.refl _ _) _) _) _) _) hb
 have hsz := hb.size
 unfold fndW at hb hsz
 simp only [alloc_size_] at hsz
 unfold fndW2
 refine ⟨?_, ?_, ?_, ?_, ?_, ?_, Kd.R_nil _ _ _ _ _, below_alloc (below_alloc hb0 _) _, by omega, hb0.size⟩
 ·exact blk_alloc (blk_alloc (blk_below (blk_alloc (blk_alloc (blk_alloc (new_at_ _ _ _ rfl) _) _) _) hb) _) _
 ·exact blk_alloc (blk_alloc (blk_below (blk_alloc (blk_alloc (new_at_ _ _ _ (by simp only [alloc_size_])) _) _) hb) _) _
 ·exact blk_alloc (blk_alloc (blk_below (blk_alloc (new_at_ _ _ _ (by simp only [alloc_size_])) _) hb) _) _
 ·exact blk_alloc (new_at_ _ _ _ rfl) _
 ·exact new_at_ _ _ _ (by simp only [alloc_size_])
 ·exact blk_alloc (blk_alloc (blk_below (new_at_ _ _ _ (by simp only [alloc_size_])) hb) _) _
/-- The result is written. -/
theorem FE.fin (E : FE n s A1 c1 t A2 c2 b0 b1 b2 b3 b5 bx #[.int .i64 0, .slice none 0 0] w0 W v sp) (hB : w0.heap.size ≤ bx) (y : Value) :
  (((W.setCell ⟨b3, 0, none⟩ y).setCell ⟨bx, 0, none⟩ y).setCell ⟨bx, 1, none⟩ v).heap[bx]? = some (.cells #[y, v] 51 (0, 0)) ∧
  Kd.R spKd 93 (((W.setCell ⟨b3, 0, none⟩ y).setCell ⟨bx, 0, none⟩ y).setCell ⟨bx, 1, none⟩ v) w0.heap.size (fun _ => True) v sp ∧
  Below w0.heap.size w0 (((W.setCell ⟨b3, 0, none⟩ y).setCell ⟨bx, 0, none⟩ y).setCell ⟨bx, 1, none⟩ v) := by
 refine ⟨?_, ?_, below_set (below_set (below_set E.hb E.hqB) hB) hB⟩
 ·exact blk_put (cs := #[y, .slice none 0 0]) (blk_put (cs := #[.int .i64 0, .slice none 0 0]) (blk_far E.hx E.hxq _) 0 _ rfl) 1 _ rfl
 ·have h := Kd.R_types (Kd.R_types E.hr E.hq (by decide)) E.hx (by decide)
  exact Kd.R_mono (Kd.R_far (p := ⟨bx, 1, none⟩) (Kd.R_far (p := ⟨bx, 0, none⟩) (Kd.R_far (p := ⟨b3, 0, none⟩) h (fun _ hk => hk.1.2) y) (fun _ hk => hk.2) y) (fun _ hk => hk.2) v) (fun _ _ => trivial)
end
end Go.Proofs.Ytcaogllnbpmcgaa.M

/- What the proof of this law needs besides: texts of ours, one behind the other. -/
import Derived.Lib.Hide
import Derived.Test.YtcaogllnbpmcgaaDoorPx7
import Derived.Test.YtcaogllnbpmcgaaDoorPx9
import Derived.Maps.OwnSet
import Derived.Maps.Views
import Derived.Laws.EntriesVeiled
import Derived.Test.YtcaogllnbpmcgaaDoorPx10
import Derived.Laws.MakeOwn
set_option linter.unusedVariables false
set_option linter.unusedSimpArgs false
namespace Go.Proofs.YtcaogllnbpmcgaaDoor.M
open Go Go.RowKit
theorem and_nat' (a b : Nat) (ha : a < 4294967296) (hb : b < 4294967296) : Go.bits .and .i64 (a : Int) (b : Int) = ((a &&& b : Nat) : Int) :=
 (bits_nat .i64 63 (by decide) wraps_i64 a b (by omega) (by omega)).1
theorem bit_test (m i : Nat) : bitN m i = 1 ↔ m.testBit i = true := by
 rw [Nat.testBit_eq_decide_div_mod_eq, decide_eq_true_eq]
 rfl
theorem tab_bit (p : Nat → Bool) (N w : Nat) : bitN (tabN p N) w = 1 ↔ w < N ∧ p w = true := by
 rw [bit_test]
 induction N with
 | zero => simp [tabN]
 | succ N ih =>
  simp only [tabN]
  have hl := tabN_lt p N
  unfold pw at hl ⊢
  by_cases h : p N = true
  ·rw [if_pos h, Nat.add_comm]
   rcases Nat.lt_trichotomy w N with hw | hw | hw
   ·rw [Nat.testBit_two_pow_add_gt hw, ih]
    exact ⟨fun h => ⟨by omega, h.2⟩, fun h => ⟨hw, h.2⟩⟩
   ·subst hw
    rw [Nat.testBit_two_pow_add_eq, Nat.testBit_lt_two_pow hl]
    exact ⟨fun _ => ⟨by omega, h⟩, fun _ => rfl⟩
   ·rw [Nat.testBit_lt_two_pow (by
     have : 2 ^ (N + 1) ≤ 2 ^ w := Nat.pow_le_pow_right (by decide) hw
     omega)]
    exact ⟨fun h => (by cases h), fun h => by omega⟩
  ·rw [if_neg h, Nat.add_zero, ih]
   constructor
   ·exact fun h => ⟨by omega, h.2⟩
   ·rintro ⟨a, b⟩
    refine ⟨?_, b⟩
    rcases Nat.lt_or_eq_of_le (Nat.le_of_lt_succ a) with c | c
    ·exact c
    ·exact absurd (c ▸ b) h
end Go.Proofs.YtcaogllnbpmcgaaDoor.M
namespace Go.Proofs.YtcaogllnbpmcgaaDoor.M
open Go Go.RowKit Go.Proofs.YtcaogllnbpmcgaaDoorW.PrintWords Go.Proofs.YtcaogllnbpmcgaaDoor.P
set_option maxHeartbeats 4000000 in
set_option maxRecDepth 100000 in
theorem tableBy_closedBy (v0 v1 : Value) (people : Int) (hp : people = 1 ∨ people = 2 ∨ people = 3 ∨ people = 4) (p : Nat → Bool) (w : World)
  (HC : ∀ (i : Int) (W : World), 0 ≤ i → i < 2 ^ people.toNat → Below w.heap.size w W → Calls Tryd.prog 66 #[.int .i64 i, v0, v1] W fun e W' => e = .returned (.bool (p i.toNat)) ∧ Below W.heap.size W W') :
  Calls Tryd.prog 65 #[.int .i64 people, .func (.func 66) #[] #[v0, v1]] w fun e w' => e = .returned (.int .i64 (tabN p (pw people.toNat) : Nat)) ∧ Below w.heap.size w w' := by
 rcases hp with rfl | rfl | rfl | rfl
 ·go_enter Tryd.func65, Tryd.ntmps65
  go_wp2
  go_loopw [5, 9] (fun t i wr => ∃ j : Nat, j ≤ 2 ∧ i = .int .i64 j ∧ t = .int .i64 (tabN p j : Nat) ∧ Below w.heap.size w wr) (fun _ i _ => 2 - (intOf i).toNat)
  case atStart => exact ⟨0, by omega, rfl, rfl, Below.refl _ _⟩
  case round =>
   obtain ⟨j, hj, rfl, rfl, hb⟩ := hrel
   by_cases hlt : j < 2
   ·rcases (by omega : j = 0 ∨ j = 1) with rfl | rfl
    all_goals go_wp2_with (go_at_call 66; (refine (HC _ _ (by decide) (by decide) hb).mono ?_); rintro e w' ⟨rfl, hb'⟩)
    ·exact ⟨⟨1, by decide, rfl, tab_yes p 0 (by decide) (by assumption), below_then hb hb.size hb'⟩, by decide⟩
    ·exact ⟨⟨1, by decide, rfl, tab_no p 0 (by assumption), below_then hb hb.size hb'⟩, by decide⟩
    ·exact ⟨⟨2, by decide, rfl, tab_yes p 1 (by decide) (by assumption), below_then hb hb.size hb'⟩, by decide⟩
    ·exact ⟨⟨2, by decide, rfl, tab_no p 1 (by assumption), below_then hb hb.size hb'⟩, by decide⟩
   ·obtain rfl : j = 2 := by omega
    go_wp2
    go_ret
    exact ⟨rfl, hb⟩
 ·go_enter Tryd.func65, Tryd.ntmps65
  go_wp2
  go_loopw [5, 9] (fun t i wr => ∃ j : Nat, j ≤ 4 ∧ i = .int .i64 j ∧ t = .int .i64 (tabN p j : Nat) ∧ Below w.heap.size w wr) (fun _ i _ => 4 - (intOf i).toNat)
  case atStart => exact ⟨0, by omega, rfl, rfl, Below.refl _ _⟩
  case round =>
   obtain ⟨j, hj, rfl, rfl, hb⟩ := hrel
   by_cases hlt : j < 4
   ·rcases (by omega : j = 0 ∨ j = 1 ∨ j = 2 ∨ j = 3) with rfl | rfl | rfl | rfl
    all_goals go_wp2_with (go_at_call 66; (refine (HC _ _ (by decide) (by decide) hb).mono ?_); rintro e w' ⟨rfl, hb'⟩)
    ·exact ⟨⟨1, by decide, rfl, tab_yes p 0 (by decide) (by assumption), below_then hb hb.size hb'⟩, by decide⟩
    ·exact ⟨⟨1, by decide, rfl, tab_no p 0 (by assumption), below_then hb hb.size hb'⟩, by decide⟩
    ·exact ⟨⟨2, by decide, rfl, tab_yes p 1 (by decide) (by assumption), below_then hb hb.size hb'⟩, by decide⟩
    ·exact ⟨⟨2, by decide, rfl, tab_no p 1 (by assumption), below_then hb hb.size hb'⟩, by decide⟩
    ·exact ⟨⟨3, by decide, rfl, tab_yes p 2 (by decide) (by assumption), below_then hb hb.size hb'⟩, by decide⟩
    ·exact ⟨⟨3, by decide, rfl, tab_no p 2 (by assumption), below_then hb hb.size hb'⟩, by decide⟩
    ·exact ⟨⟨4, by decide, rfl, tab_yes p 3 (by decide) (by assumption), below_then hb hb.size hb'⟩, by decide⟩
    ·exact ⟨⟨4, by decide, rfl, tab_no p 3 (by assumption), below_then hb hb.size hb'⟩, by decide⟩
   ·obtain rfl : j = 4 := by omega
    go_wp2
    go_ret
    exact ⟨rfl, hb⟩
 ·go_enter Tryd.func65, Tryd.ntmps65
  go_wp2
  go_loopw [5, 9] (fun t i wr => ∃ j : Nat, j ≤ 8 ∧ i = .int .i64 j ∧ t = .int .i64 (tabN p j : Nat) ∧ Below w.heap.size w wr) (fun _ i _ => 8 - (intOf i).toNat)
  case atStart => exact ⟨0, by omega, rfl, rfl, Below.refl _ _⟩
  case round =>
   obtain ⟨j, hj, rfl, rfl, hb⟩ := hrel
   by_cases hlt : j < 8
   ·rcases (by omega : j = 0 ∨ j = 1 ∨ j = 2 ∨ j = 3 ∨ j = 4 ∨ j = 5 ∨ j = 6 ∨ j = 7) with rfl | rfl | rfl | rfl | rfl | rfl | rfl | rfl
    all_goals go_wp2_with (go_at_call 66; (refine (HC _ _ (by decide) (by decide) hb).mono ?_); rintro e w' ⟨rfl, hb'⟩)
    ·exact ⟨⟨1, by decide, rfl, tab_yes p 0 (by decide) (by assumption), below_then hb hb.size hb'⟩, by decide⟩
    ·exact ⟨⟨1, by decide, rfl, tab_no p 0 (by assumption), below_then hb hb.size hb'⟩, by decide⟩
    ·exact ⟨⟨2, by decide, rfl, tab_yes p 1 (by decide) (by assumption), below_then hb hb.size hb'⟩, by decide⟩
    ·exact ⟨⟨2, by decide, rfl, tab_no p 1 (by assumption), below_then hb hb.size hb'⟩, by decide⟩
    ·exact ⟨⟨3, by decide, rfl, tab_yes p 2 (by decide) (by assumption), below_then hb hb.size hb'⟩, by decide⟩
    ·exact ⟨⟨3, by decide, rfl, tab_no p 2 (by assumption), below_then hb hb.size hb'⟩, by decide⟩
    ·exact ⟨⟨4, by decide, rfl, tab_yes p 3 (by decide) (by assumption), below_then hb hb.size hb'⟩, by decide⟩
    ·exact ⟨⟨4, by decide, rfl, tab_no p 3 (by assumption), below_then hb hb.size hb'⟩, by decide⟩
    ·exact ⟨⟨5, by decide, rfl, tab_yes p 4 (by decide) (by assumption), below_then hb hb.size hb'⟩, by decide⟩
    ·exact ⟨⟨5, by decide, rfl, tab_no p 4 (by assumption), below_then hb hb.size hb'⟩, by decide⟩
    ·exact ⟨⟨6, by decide, rfl, tab_yes p 5 (by decide) (by assumption), below_then hb hb.size hb'⟩, by decide⟩
    ·exact ⟨⟨6, by decide, rfl, tab_no p 5 (by assumption), below_then hb hb.size hb'⟩, by decide⟩
    ·exact ⟨⟨7, by decide, rfl, tab_yes p 6 (by decide) (by assumption), below_then hb hb.size hb'⟩, by decide⟩
    ·exact ⟨⟨7, by decide, rfl, tab_no p 6 (by assumption), below_then hb hb.size hb'⟩, by decide⟩
    ·exact ⟨⟨8, by decide, rfl, tab_yes p 7 (by decide) (by assumption), below_then hb hb.size hb'⟩, by decide⟩
    ·exact ⟨⟨8, by decide, rfl, tab_no p 7 (by assumption), below_then hb hb.size hb'⟩, by decide⟩
   ·obtain rfl : j = 8 := by omega
    go_wp2
    go_ret
    exact ⟨rfl, hb⟩
 ·go_enter Tryd.func65, Tryd.ntmps65
  go_wp2
  go_loopw [5, 9] (fun t i wr => ∃ j : Nat, j ≤ 16 ∧ i = .int .i64 j ∧ t = .int .i64 (tabN p j : Nat) ∧ Below w.heap.size w wr) (fun _ i _ => 16 - (intOf i).toNat)
  case atStart => exact ⟨0, by omega, rfl, rfl, Below.refl _ _⟩
  case round =>
   obtain ⟨j, hj, rfl, rfl, hb⟩ := hrel
   by_cases hlt : j < 16
   ·rcases (by omega : j = 0 ∨ j = 1 ∨ j = 2 ∨ j = 3 ∨ j = 4 ∨ j = 5 ∨ j = 6 ∨ j = 7 ∨ j = 8 ∨ j = 9 ∨ j = 10 ∨ j = 11 ∨ j = 12 ∨ j = 13 ∨ j = 14 ∨ j = 15) with rfl | rfl | rfl | rfl | rfl | rfl | rfl | rfl | rfl | rfl | rfl | rfl | rfl | rfl | rfl | rfl
    all_goals go_wp2_with (go_at_call 66; (refine (HC _ _ (by decide) (by decide) hb).mono ?_); rintro e w' ⟨rfl, hb'⟩)
    ·exact ⟨⟨1, by decide, rfl, tab_yes p 0 (by decide) (by assumption), below_then hb hb.size hb'⟩, by decide⟩
    ·exact ⟨⟨1, by decide, rfl, tab_no p 0 (by assumption), below_then hb hb.size hb'⟩, by decide⟩
    ·exact ⟨⟨2, by decide, rfl, tab_yes p 1 (by decide) (by assumption), below_then hb hb.size hb'⟩, by decide⟩
    ·exact ⟨⟨2, by decide, rfl, tab_no p 1 (by assumption), below_then hb hb.size hb'⟩, by decide⟩
    ·exact ⟨⟨3, by decide, rfl, tab_yes p 2 (by decide) (by assumption), below_then hb hb.size hb'⟩, by decide⟩
    ·exact ⟨⟨3, by decide, rfl, tab_no p 2 (by assumption), below_then hb hb.size hb'⟩, by decide⟩
    ·exact ⟨⟨4, by decide, rfl, tab_yes p 3 (by decide) (by assumption), below_then hb hb.size hb'⟩, by decide⟩
    ·exact ⟨⟨4, by decide, rfl, tab_no p 3 (by assumption), below_then hb hb.size hb'⟩, by decide⟩
    ·exact ⟨⟨5, by decide, rfl, tab_yes p 4 (by decide) (by assumption), below_then hb hb.size hb'⟩, by decide⟩
    ·exact ⟨⟨5, by decide, rfl, tab_no p 4 (by assumption), below_then hb hb.size hb'⟩, by decide⟩
    ·exact ⟨⟨6, by decide, rfl, tab_yes p 5 (by decide) (by assumption), below_then hb hb.size hb'⟩, by decide⟩
    ·exact ⟨⟨6, by decide, rfl, tab_no p 5 (by assumption), below_then hb hb.size hb'⟩, by decide⟩
    ·exact ⟨⟨7, by decide, rfl, tab_yes p 6 (by decide) (by assumption), below_then hb hb.size hb'⟩, by decide⟩
    ·exact ⟨⟨7, by decide, rfl, tab_no p 6 (by assumption), below_then hb hb.size hb'⟩, by decide⟩
    ·exact ⟨⟨8, by decide, rfl, tab_yes p 7 (by decide) (by assumption), below_then hb hb.size hb'⟩, by decide⟩
    ·exact ⟨⟨8, by decide, rfl, tab_no p 7 (by assumption), below_then hb hb.size hb'⟩, by decide⟩
    ·exact ⟨⟨9, by decide, rfl, tab_yes p 8 (by decide) (by assumption), below_then hb hb.size hb'⟩, by decide⟩
    ·exact ⟨⟨9, by decide, rfl, tab_no p 8 (by assumption), below_then hb hb.size hb'⟩, by decide⟩
    ·exact ⟨⟨10, by decide, rfl, tab_yes p 9 (by decide) (by assumption), below_then hb hb.size hb'⟩, by decide⟩
    ·exact ⟨⟨10, by decide, rfl, tab_no p 9 (by assumption), below_then hb hb.size hb'⟩, by decide⟩
    ·exact ⟨⟨11, by decide, rfl, tab_yes p 10 (by decide) (by assumption), below_then hb hb.size hb'⟩, by decide⟩
    ·exact ⟨⟨11, by decide, rfl, tab_no p 10 (by assumption), below_then hb hb.size hb'⟩, by decide⟩
    ·exact ⟨⟨12, by decide, rfl, tab_yes p 11 (by decide) (by assumption), below_then hb hb.size hb'⟩, by decide⟩
    ·exact ⟨⟨12, by decide, rfl, tab_no p 11 (by assumption), below_then hb hb.size hb'⟩, by decide⟩
    ·exact ⟨⟨13, by decide, rfl, tab_yes p 12 (by decide) (by assumption), below_then hb hb.size hb'⟩, by decide⟩
    ·exact ⟨⟨13, by decide, rfl, tab_no p 12 (by assumption), below_then hb hb.size hb'⟩, by decide⟩
    ·exact ⟨⟨14, by decide, rfl, tab_yes p 13 (by decide) (by assumption), below_then hb hb.size hb'⟩, by decide⟩
    ·exact ⟨⟨14, by decide, rfl, tab_no p 13 (by assumption), below_then hb hb.size hb'⟩, by decide⟩
    ·exact ⟨⟨15, by decide, rfl, tab_yes p 14 (by decide) (by assumption), below_then hb hb.size hb'⟩, by decide⟩
    ·exact ⟨⟨15, by decide, rfl, tab_no p 14 (by assumption), below_then hb hb.size hb'⟩, by decide⟩
    ·exact ⟨⟨16, by decide, rfl, tab_yes p 15 (by decide) (by assumption), below_then hb hb.size hb'⟩, by decide⟩
    ·exact ⟨⟨16, by decide, rfl, tab_no p 15 (by assumption), below_then hb hb.size hb'⟩, by decide⟩
   ·obtain rfl : j = 16 := by omega
    go_wp2
    go_ret
    exact ⟨rfl, hb⟩
end Go.Proofs.YtcaogllnbpmcgaaDoor.M
namespace Go.Proofs.YtcaogllnbpmcgaaDoor.Q
open Go Go.Proofs.YtcaogllnbpmcgaaDoor.P
abbrev Sp := S68
def zS : Sp := ⟨0, 0, 0⟩
def goalM (n kn wd : Nat) (hold : Nat → Bool) : Bool := (List.range (2 ^ n)).all fun w => !(w &&& kn == wd) || hold w
theorem goalM_iff (n kn wd : Nat) (hold : Nat → Bool) : goalM n kn wd hold = true ↔ ∀ w, w < 2 ^ n → w &&& kn = wd → hold w = true := by
 unfold goalM
 rw [List.all_eq_true]
 constructor
 ·intro h w hw hm
  have := h w (List.mem_range.2 hw)
  rw [beq_iff_eq.2 hm] at this
  simpa using this
 ·intro h w hw
  by_cases hm : w &&& kn = wd
  ·rw [h w (List.mem_range.1 hw) hm]; simp
  ·rw [beq_eq_false_iff_ne.2 hm]; rfl
def clM (n m : Nat) (hold : Nat → Bool) (may : Nat → Nat → Bool) (kn wd : Nat) (t : Int) : Bool :=
 if t = -1 then goalM n kn wd hold else if 0 ≤ -2 - t ∧ -2 - t < m then goalM n kn wd (fun w => !may (-2 - t).toNat w) else false
section
variable (S : List Sp) (n : Nat) (cl : Nat → Nat → Int → Bool)
def chkI : Nat → Int → Int → Nat → Nat → List Bool → Bool × List Bool
 | 0, _, _, _, _, come => (false, come)
 | f + 1, tgt, fr, kn, wd, come =>
  if tgt < 0 then (cl kn wd tgt, come)
  else if tgt ≤ fr ∨ (S.length : Int) ≤ tgt ∨ come.getD tgt.toNat false = true then (false, come)
  else if (S.getD tgt.toNat zS).f0 < 0 ∨ (n : Int) ≤ (S.getD tgt.toNat zS).f0 ∨ kn.testBit (S.getD tgt.toNat zS).f0.toNat = true then (false, come.set tgt.toNat true)
  else if (chkI f (S.getD tgt.toNat zS).f1 tgt (kn ||| 2 ^ (S.getD tgt.toNat zS).f0.toNat) wd (come.set tgt.toNat true)).1 = true then
   chkI f (S.getD tgt.toNat zS).f2 tgt (kn ||| 2 ^ (S.getD tgt.toNat zS).f0.toNat) (wd ||| 2 ^ (S.getD tgt.toNat zS).f0.toNat) (chkI f (S.getD tgt.toNat zS).f1 tgt (kn ||| 2 ^ (S.getD tgt.toNat zS).f0.toNat) wd (come.set tgt.toNat true)).2
  else (false, (chkI f (S.getD tgt.toNat zS).f1 tgt (kn ||| 2 ^ (S.getD tgt.toNat zS).f0.toNat) wd (come.set tgt.toNat true)).2)
def okN (x tgt : Int) : Prop := x < 0 ∨ (tgt < x ∧ x < S.length)
instance (x tgt : Int) : Decidable (okN S x tgt) := by unfold okN; infer_instance
def nodeP (tgt : Int) (kn : Nat) : Prop := 0 ≤ (S.getD tgt.toNat zS).f0 ∧ (S.getD tgt.toNat zS).f0 < n ∧ kn.testBit (S.getD tgt.toNat zS).f0.toNat = false
instance (tgt : Int) (kn : Nat) : Decidable (nodeP S n tgt kn) := by unfold nodeP; infer_instance
def sons (tgt : Int) : Prop := okN S (S.getD tgt.toNat zS).f1 tgt ∧ okN S (S.getD tgt.toNat zS).f2 tgt
instance (tgt : Int) : Decidable (sons S tgt) := by unfold sons; infer_instance
def visP : Nat → Int → Nat → Nat → Option (List Nat)
 | 0, _, _, _ => none
 | f + 1, tgt, kn, wd =>
  if tgt < 0 then (if cl kn wd tgt = true then some [] else none)
  else if nodeP S n tgt kn ∧ sons S tgt then
   match visP f (S.getD tgt.toNat zS).f1 (kn ||| 2 ^ (S.getD tgt.toNat zS).f0.toNat) wd with
   | none => none
   | some a => match visP f (S.getD tgt.toNat zS).f2 (kn ||| 2 ^ (S.getD tgt.toNat zS).f0.toNat) (wd ||| 2 ^ (S.getD tgt.toNat zS).f0.toNat) with
    | none => none
    | some b => some (tgt.toNat :: (a ++ b))
  else none
variable {S n cl}
theorem vis_neg {f : Nat} {tgt : Int} {kn wd : Nat} (h : tgt < 0) : visP S n cl (f + 1) tgt kn wd = if cl kn wd tgt = true then some [] else none := by rw [visP, if_pos h]
theorem vis_some {f : Nat} {tgt : Int} {kn wd : Nat} {l : List Nat} (h0 : ¬ tgt < 0) (h : visP S n cl (f + 1) tgt kn wd = some l) :
  nodeP S n tgt kn ∧ sons S tgt ∧ ∃ a b, visP S n cl f (S.getD tgt.toNat zS).f1 (kn ||| 2 ^ (S.getD tgt.toNat zS).f0.toNat) wd = some a ∧
   visP S n cl f (S.getD tgt.toNat zS).f2 (kn ||| 2 ^ (S.getD tgt.toNat zS).f0.toNat) (wd ||| 2 ^ (S.getD tgt.toNat zS).f0.toNat) = some b ∧ l = tgt.toNat :: (a ++ b) := by
 rw [visP, if_neg h0] at h
 by_cases hc : nodeP S n tgt kn ∧ sons S tgt
 ·rw [if_pos hc] at h
  refine ⟨hc.1, hc.2, ?_⟩
  split at h
  ·cases h
  ·rename_i a ha
   split at h
   ·cases h
   ·rename_i b hb
    exact ⟨a, b, ha, hb, (Option.some.inj h).symm⟩
 ·rw [if_neg hc] at h; cases h
theorem vis_node {f : Nat} {tgt : Int} {kn wd : Nat} {a b : List Nat} (h0 : ¬ tgt < 0) (h1 : nodeP S n tgt kn) (h2 : sons S tgt)
  (ha : visP S n cl f (S.getD tgt.toNat zS).f1 (kn ||| 2 ^ (S.getD tgt.toNat zS).f0.toNat) wd = some a)
  (hb : visP S n cl f (S.getD tgt.toNat zS).f2 (kn ||| 2 ^ (S.getD tgt.toNat zS).f0.toNat) (wd ||| 2 ^ (S.getD tgt.toNat zS).f0.toNat) = some b) :
  visP S n cl (f + 1) tgt kn wd = some (tgt.toNat :: (a ++ b)) := by
 rw [visP, if_neg h0, if_pos ⟨h1, h2⟩, ha]
 simp only
 rw [hb]
def markL (come : List Bool) (l : List Nat) : List Bool := l.foldl (fun c x => c.set x true) come
theorem markL_len : ∀ (l : List Nat) (come : List Bool), (markL come l).length = come.length
 | [], _ => rfl
 | x :: l, come => by
  show (markL (come.set x true) l).length = _
  rw [markL_len l, List.length_set]
theorem set_get (come : List Bool) (x j : Nat) (d : Bool) : (come.set x true).getD j d = if j = x ∧ j < come.length then true else come.getD j d := by
 rw [List.getD_eq_getElem?_getD, List.getD_eq_getElem?_getD, List.getElem?_set]
 by_cases h : x = j
 ·subst h
  by_cases h2 : x < come.length
  ·simp [h2]
  ·simp [h2]
 ·have : ¬ (j = x ∧ j < come.length) := fun h' => h h'.1.symm
  rw [if_neg this, if_neg h]
theorem markL_get : ∀ (l : List Nat) (come : List Bool) (j : Nat) (d : Bool), (markL come l).getD j d = if j ∈ l ∧ j < come.length then true else come.getD j d
 | [], come, j, d => by simp [markL]
 | x :: l, come, j, d => by
  show (markL (come.set x true) l).getD j d = _
  rw [markL_get l, List.length_set, set_get]
  by_cases h1 : j ∈ l ∧ j < come.length
  ·rw [if_pos h1, if_pos ⟨by simp [h1.1], h1.2⟩]
  ·rw [if_neg h1]
   by_cases h2 : j = x ∧ j < come.length
   ·rw [if_pos h2, if_pos ⟨by simp [h2.1], h2.2⟩]
   ·rw [if_neg h2, if_neg]
    rintro ⟨h3, h4⟩
    rcases List.mem_cons.1 h3 with h3 | h3
    ·exact h2 ⟨h3, h4⟩
    ·exact h1 ⟨h3, h4⟩
theorem markL_app (come : List Bool) (a b : List Nat) : markL (markL come a) b = markL come (a ++ b) := by
 unfold markL
 rw [List.foldl_append]
def freeP (come : List Bool) (l : List Nat) : Prop := l.Nodup ∧ ∀ x ∈ l, come.getD x false = false
theorem vis_lt : ∀ (f : Nat) (tgt : Int) (kn wd : Nat) (l : List Nat), (tgt < 0 ∨ tgt < S.length) → visP S n cl f tgt kn wd = some l → ∀ x ∈ l, x < S.length ∧ tgt ≤ x := by
 intro f
 induction f with
 | zero => intro tgt kn wd l _ h; cases h
 | succ f ih =>
  intro tgt kn wd l ht h x hx
  by_cases h0 : tgt < 0
  ·rw [vis_neg h0] at h
   split at h
   ·cases h; cases hx
   ·cases h
  ·obtain ⟨hn, hs, a, b, ha, hb, rfl⟩ := vis_some h0 h
   have e1 := hs.1
   have e2 := hs.2
   unfold okN at e1 e2
   rcases List.mem_cons.1 hx with rfl | hx
   ·omega
   ·rcases List.mem_append.1 hx with hx | hx
    ·have := ih _ _ _ _ (by omega) ha x hx
     rcases e1 with e1 | e1
     ·cases f with
      | zero => cases ha
      | succ f =>
       rw [vis_neg e1] at ha
       split at ha
       ·cases ha; cases hx
       ·cases ha
     ·omega
    ·have := ih _ _ _ _ (by omega) hb x hx
     rcases e2 with e2 | e2
     ·cases f with
      | zero => cases hb
      | succ f =>
       rw [vis_neg e2] at hb
       split at hb
       ·cases hb; cases hx
       ·cases hb
     ·omega
theorem chk_iff : ∀ (f : Nat) (tgt fr : Int) (kn wd : Nat) (come : List Bool), come.length = S.length → (tgt < 0 ∨ (S.length : Int) < f + tgt) →
  ((chkI S n cl f tgt fr kn wd come).1 = true ↔ okN S tgt fr ∧ ∃ l, visP S n cl f tgt kn wd = some l ∧ freeP come l) ∧
  (∀ l, okN S tgt fr → visP S n cl f tgt kn wd = some l → freeP come l → (chkI S n cl f tgt fr kn wd come).2 = markL come l) ∧ (chkI S n cl f tgt fr kn wd come).2.length = S.length := by
 intro f
 induction f with
 | zero =>
  intro tgt fr kn wd come hl hf
  refine ⟨⟨fun h => (by cases h), ?_⟩, ?_, hl⟩
  ·rintro ⟨_, l, h, _⟩
   cases h
  ·intro l _ h
   cases h
 | succ f ih =>
  intro tgt fr kn wd come hl hf
  by_cases h0 : tgt < 0
  ·rw [vis_neg h0, chkI, if_pos h0]
   refine ⟨?_, ?_, hl⟩
   ·constructor
    ·intro h
     have h : cl kn wd tgt = true := h
     exact ⟨.inl h0, [], by rw [if_pos h], List.nodup_nil, fun x hx => by cases hx⟩
    ·rintro ⟨_, l, h, _⟩
     split at h
     ·assumption
     ·cases h
   ·intro l _ h _
    split at h
    ·cases h; rfl
    ·cases h
  ·have hnot : ∀ Q : Bool × List Bool, Q.1 = false → Q.2.length = S.length → ¬ (okN S tgt fr ∧ ∃ l, visP S n cl (f + 1) tgt kn wd = some l ∧ freeP come l) → chkI S n cl (f + 1) tgt fr kn wd come = Q →
     ((chkI S n cl (f + 1) tgt fr kn wd come).1 = true ↔ okN S tgt fr ∧ ∃ l, visP S n cl (f + 1) tgt kn wd = some l ∧ freeP come l) ∧
     (∀ l, okN S tgt fr → visP S n cl (f + 1) tgt kn wd = some l → freeP come l → (chkI S n cl (f + 1) tgt fr kn wd come).2 = markL come l) ∧ (chkI S n cl (f + 1) tgt fr kn wd come).2.length = S.length := by
    intro Q hQ hQ2 hn hE
    rw [hE]
    refine ⟨⟨fun h => ?_, fun h => absurd h hn⟩, fun l h1 h2 h3 => absurd ⟨h1, l, h2, h3⟩ hn, hQ2⟩
    rw [hQ] at h; cases h
   by_cases h1 : tgt ≤ fr ∨ (S.length : Int) ≤ tgt ∨ come.getD tgt.toNat false = true
   ·refine hnot (false, come) rfl hl ?_ (by rw [chkI, if_neg h0, if_pos h1])
    rintro ⟨hok, l, hv, hf1, hf2⟩
    obtain ⟨_, _, a, b, _, _, rfl⟩ := vis_some h0 hv
    have := hf2 tgt.toNat (by simp)
    unfold okN at hok
    rcases h1 with h1 | h1 | h1
    ·omega
    ·omega
    ·rw [this] at h1; cases h1
   ·have hto : tgt < S.length := by omega
    have hlt : tgt.toNat < come.length := by omega
    have hfree : come.getD tgt.toNat false = false := by
     cases hx : come.getD tgt.toNat false
     ·rfl
     ·exact absurd (.inr (.inr hx)) h1
    by_cases h2 : (S.getD tgt.toNat zS).f0 < 0 ∨ (n : Int) ≤ (S.getD tgt.toNat zS).f0 ∨ kn.testBit (S.getD tgt.toNat zS).f0.toNat = true
    ·refine hnot (false, come.set tgt.toNat true) rfl (by rw [List.length_set]; exact hl) ?_ (by rw [chkI, if_neg h0, if_neg h1, if_pos h2])
     rintro ⟨hok, l, hv, hf1, hf2⟩
     obtain ⟨hn, _⟩ := vis_some h0 hv
     obtain ⟨n1, n2, n3⟩ := hn
     rcases h2 with h2 | h2 | h2
     ·omega
     ·omega
     ·rw [n3] at h2; cases h2
    ·have hnode : nodeP S n tgt kn := ⟨by omega, by omega, by
      cases hx : kn.testBit (S.getD tgt.toNat zS).f0.toNat
      ·rfl
      ·exact absurd (.inr (.inr hx)) h2⟩
     have hl1 : (come.set tgt.toNat true).length = S.length := by rw [List.length_set]; exact hl
     have hokto : okN S tgt fr := .inr ⟨by omega, hto⟩
     generalize hkn : kn ||| 2 ^ (S.getD tgt.toNat zS).f0.toNat = kn'
     generalize hwd : wd ||| 2 ^ (S.getD tgt.toNat zS).f0.toNat = wd'
     have I1 := fun h => ih (S.getD tgt.toNat zS).f1 tgt kn' wd (come.set tgt.toNat true) hl1 h
     by_cases hf1 : (S.getD tgt.toNat zS).f1 < 0 ∨ tgt < (S.getD tgt.toNat zS).f1
     ·obtain ⟨i1, i2, i3⟩ := I1 (by omega)
      by_cases hb1 : (chkI S n cl f (S.getD tgt.toNat zS).f1 tgt kn' wd (come.set tgt.toNat true)).1 = true
      ·obtain ⟨hok1, a, ha, hfa⟩ := i1.1 hb1
       have hc2 := i2 a hok1 ha hfa
       have hE : chkI S n cl (f + 1) tgt fr kn wd come = chkI S n cl f (S.getD tgt.toNat zS).f2 tgt kn' wd' (markL (come.set tgt.toNat true) a) := by
        rw [chkI, if_neg h0, if_neg h1, if_neg h2, hkn, hwd, if_pos hb1, hc2]
       have hl2 : (markL (come.set tgt.toNat true) a).length = S.length := by rw [markL_len]; exact hl1
       have I2 := fun h => ih (S.getD tgt.toNat zS).f2 tgt kn' wd' (markL (come.set tgt.toNat true) a) hl2 h
       by_cases hf2 : (S.getD tgt.toNat zS).f2 < 0 ∨ tgt < (S.getD tgt.toNat zS).f2
       ·obtain ⟨j1, j2, j3⟩ := I2 (by omega)
        have hfr : ∀ b, visP S n cl f (S.getD tgt.toNat zS).f2 kn' wd' = some b → okN S (S.getD tgt.toNat zS).f2 tgt → (freeP (markL (come.set tgt.toNat true) a) b ↔ freeP come (tgt.toNat :: (a ++ b))) := by
         intro b hb hok2
         have la := vis_lt f _ _ _ a (by unfold okN at hok1; omega) ha
         have lb := vis_lt f _ _ _ b (by unfold okN at hok2; omega) hb
         have ga : ∀ x ∈ a, come.getD x false = false ∧ x ≠ tgt.toNat := fun x hx => by
          have := hfa.2 x hx
          rw [set_get] at this
          by_cases hc : x = tgt.toNat ∧ x < come.length
          ·rw [if_pos hc] at this; cases this
          ·rw [if_neg hc] at this
           exact ⟨this, fun h => hc ⟨h, by rw [h]; exact hlt⟩⟩
         have gb : ∀ x ∈ b, ((markL (come.set tgt.toNat true) a).getD x false = false ↔ x ∉ a ∧ x ≠ tgt.toNat ∧ come.getD x false = false) := fun x hx => by
          have hxl : x < come.length := by have := (lb x hx).1; omega
          rw [markL_get, List.length_set, set_get]
          by_cases c1 : x ∈ a
          ·rw [if_pos ⟨c1, hxl⟩]
           exact ⟨fun h => (by cases h), fun h => absurd c1 h.1⟩
          ·rw [if_neg (fun h => c1 h.1)]
           by_cases c2 : x = tgt.toNat
           ·rw [if_pos ⟨c2, hxl⟩]
            exact ⟨fun h => (by cases h), fun h => absurd c2 h.2.1⟩
           ·rw [if_neg (fun h => c2 h.1)]
            exact ⟨fun h => ⟨c1, c2, h⟩, fun h => h.2.2⟩
         unfold freeP
         rw [List.nodup_cons, List.nodup_append]
         constructor
         ·rintro ⟨hn, hm⟩
          refine ⟨⟨fun hmem => ?_, hfa.1, hn, fun x hx y hy e => ?_⟩, fun x hx => ?_⟩
          ·rcases List.mem_append.1 hmem with hmem | hmem
           ·exact (ga _ hmem).2 rfl
           ·exact ((gb _ hmem).1 (hm _ hmem)).2.1 rfl
          ·subst e
           exact ((gb x hy).1 (hm x hy)).1 hx
          ·rcases List.mem_cons.1 hx with rfl | hx
           ·exact hfree
           ·rcases List.mem_append.1 hx with hx | hx
            ·exact (ga x hx).1
            ·exact ((gb x hx).1 (hm x hx)).2.2
         ·rintro ⟨⟨hmem, hna, hnb, hd⟩, hm⟩
          refine ⟨hnb, fun x hx => (gb x hx).2 ⟨fun h => hd x h x hx rfl, fun h => hmem (h ▸ List.mem_append.2 (.inr hx)), hm x (by simp [hx])⟩⟩
        rw [hE]
        refine ⟨?_, ?_, j3⟩
        ·rw [j1]
         constructor
         ·rintro ⟨hok2, b, hb, hfb⟩
          exact ⟨hokto, _, vis_node h0 hnode ⟨hok1, hok2⟩ (hkn ▸ ha) (hkn ▸ hwd ▸ hb), (hfr b hb hok2).1 hfb⟩
         ·rintro ⟨_, l, hv, hfl⟩
          obtain ⟨_, hs, a', b, ha', hb, rfl⟩ := vis_some h0 hv
          rw [hkn] at ha' hb
          rw [hwd] at hb
          rw [ha] at ha'
          cases ha'
          exact ⟨hs.2, b, hb, (hfr b hb hs.2).2 hfl⟩
        ·intro l _ hv hfl
         obtain ⟨_, hs, a', b, ha', hb, rfl⟩ := vis_some h0 hv
         rw [hkn] at ha' hb
         rw [hwd] at hb
         rw [ha] at ha'
         cases ha'
         rw [j2 b hs.2 hb ((hfr b hb hs.2).2 hfl), markL_app]
         rfl
       ·have hbad : ∀ g, 0 < g → chkI S n cl g (S.getD tgt.toNat zS).f2 tgt kn' wd' (markL (come.set tgt.toNat true) a) = (false, markL (come.set tgt.toNat true) a) := by
         intro g hg
         cases g with
         | zero => omega
         | succ g => rw [chkI, if_neg (by omega), if_pos (by omega)]
        have hE2 : chkI S n cl (f + 1) tgt fr kn wd come = (false, markL (come.set tgt.toNat true) a) := by
         rw [hE]
         exact hbad f (by
          cases f with
          | zero => simp [chkI] at hb1
          | succ f => omega)
        refine hnot _ rfl hl2 ?_ hE2
        rintro ⟨_, l, hv, _⟩
        obtain ⟨_, hs, _⟩ := vis_some h0 hv
        have := hs.2
        unfold okN at this
        omega
      ·have hE : chkI S n cl (f + 1) tgt fr kn wd come = (false, (chkI S n cl f (S.getD tgt.toNat zS).f1 tgt kn' wd (come.set tgt.toNat true)).2) := by
        rw [chkI, if_neg h0, if_neg h1, if_neg h2, hkn, if_neg hb1]
       refine hnot (false, (chkI S n cl f (S.getD tgt.toNat zS).f1 tgt kn' wd (come.set tgt.toNat true)).2) rfl i3 ?_ hE
       rintro ⟨_, l, hv, hfl⟩
       obtain ⟨_, hs, a, b, ha, hb, rfl⟩ := vis_some h0 hv
       rw [hkn] at ha
       refine hb1 (i1.2 ⟨hs.1, a, ha, (List.nodup_append.1 (List.nodup_cons.1 hfl.1).2).1, fun x hx => ?_⟩)
       rw [set_get, if_neg]
       ·exact hfl.2 x (by simp [hx])
       ·rintro ⟨rfl, _⟩
        exact (List.nodup_cons.1 hfl.1).1 (List.mem_append.2 (.inl hx))
     ·have hbad : (chkI S n cl f (S.getD tgt.toNat zS).f1 tgt kn' wd (come.set tgt.toNat true)) = (false, come.set tgt.toNat true) := by
       cases f with
       | zero => rfl
       | succ f => rw [chkI, if_neg (by omega), if_pos (by omega)]
      have hE : chkI S n cl (f + 1) tgt fr kn wd come = (false, come.set tgt.toNat true) := by
       rw [chkI, if_neg h0, if_neg h1, if_neg h2, hkn, hbad, if_neg Bool.false_ne_true]
      refine hnot _ rfl hl1 ?_ hE
      rintro ⟨_, l, hv, _⟩
      obtain ⟨_, hs, _⟩ := vis_some h0 hv
      have := hs.1
      unfold okN at this
      omega
def okI (S : List Sp) (n : Nat) (cl : Nat → Nat → Int → Bool) (first : Int) : Prop :=
 (chkI S n cl (S.length + 2) first (-1) 0 0 (List.replicate S.length false)).1 = true ∧ ∀ b ∈ (chkI S n cl (S.length + 2) first (-1) 0 0 (List.replicate S.length false)).2, b = true
theorem rep_get (m j : Nat) : (List.replicate m false).getD j false = false := by
 rw [List.getD_eq_getElem?_getD, List.getElem?_replicate]
 split <;> rfl
theorem okI_iff (first : Int) (h1 : okN S first (-1)) : okI S n cl first ↔ ∃ l, visP S n cl (S.length + 2) first 0 0 = some l ∧ l.Nodup ∧ ∀ i, i < S.length → i ∈ l := by
 obtain ⟨c1, c2, c3⟩ := chk_iff (S := S) (n := n) (cl := cl) (S.length + 2) first (-1) 0 0 (List.replicate S.length false) (by simp) (by unfold okN at h1; omega)
 unfold okI
 have hall : ∀ l : List Nat, (∀ x ∈ l, x < S.length) → ((∀ b ∈ markL (List.replicate S.length false) l, b = true) ↔ ∀ i, i < S.length → i ∈ l) := by
  intro l hl
  have hlen : (markL (List.replicate S.length false) l).length = S.length := by rw [markL_len, List.length_replicate]
  have hg : ∀ i, i < S.length → ((markL (List.replicate S.length false) l).getD i false = true ↔ i ∈ l) := fun i hi => by
   rw [markL_get, List.length_replicate, rep_get]
   by_cases h : i ∈ l
   ·rw [if_pos ⟨h, hi⟩]; exact ⟨fun _ => h, fun _ => rfl⟩
   ·rw [if_neg (fun h' => h h'.1)]; exact ⟨fun h => (by cases h), fun h' => absurd h' h⟩
  constructor
  ·intro h i hi
   refine (hg i hi).1 (h _ ?_)
   rw [List.getD_eq_getElem?_getD, List.getElem?_eq_getElem (by omega)]
   exact List.getElem_mem _
  ·intro h b hb
   obtain ⟨i, hi, rfl⟩ := List.getElem_of_mem hb
   rw [hlen] at hi
   have := (hg i hi).2 (h i hi)
   rw [List.getD_eq_getElem?_getD, List.getElem?_eq_getElem (by omega)] at this
   exact this
 constructor
 ·rintro ⟨h, h2⟩
  obtain ⟨_, l, hv, hf⟩ := c1.1 h
  rw [c2 l h1 hv hf] at h2
  have hl := vis_lt _ _ _ _ l (by unfold okN at h1; omega) hv
  exact ⟨l, hv, hf.1, (hall l fun x hx => (hl x hx).1).1 h2⟩
 ·rintro ⟨l, hv, hn, hc⟩
  have hf : freeP (List.replicate S.length false) l := ⟨hn, fun x _ => rep_get _ _⟩
  have hl := vis_lt _ _ _ _ l (by unfold okN at h1; omega) hv
  refine ⟨c1.2 ⟨h1, l, hv, hf⟩, ?_⟩
  rw [c2 l h1 hv hf]
  exact (hall l fun x hx => (hl x hx).1).2 hc
def chil (S : List Sp) (i : Nat) : List Nat := (if (S.getD i zS).f1 < 0 then [] else [(S.getD i zS).f1.toNat]) ++ (if (S.getD i zS).f2 < 0 then [] else [(S.getD i zS).f2.toNat])
theorem vis_perm : ∀ (f : Nat) (tgt : Int) (kn wd : Nat) (l : List Nat), visP S n cl f tgt kn wd = some l →
  (tgt < 0 ∧ l = []) ∨ (0 ≤ tgt ∧ l.Perm (tgt.toNat :: l.flatMap (chil S)) ∧ ∀ i ∈ l, sons S i) := by
 intro f
 induction f with
 | zero => intro tgt kn wd l h; cases h
 | succ f ih =>
  intro tgt kn wd l h
  by_cases h0 : tgt < 0
  ·rw [vis_neg h0] at h
   split at h
   ·cases h; exact .inl ⟨h0, rfl⟩
   ·cases h
  ·obtain ⟨hn, hs, a, b, ha, hb, rfl⟩ := vis_some h0 h
   have one : ∀ (x : Int) (l : List Nat), ((x < 0 ∧ l = []) ∨ (0 ≤ x ∧ l.Perm (x.toNat :: l.flatMap (chil S)) ∧ ∀ i ∈ l, sons S i)) → l.Perm ((if x < 0 then [] else [x.toNat]) ++ l.flatMap (chil S)) ∧ ∀ i ∈ l, sons S i := by
    rintro x l (⟨h1, rfl⟩ | ⟨h1, h2, h3⟩)
    ·rw [if_pos h1]
     exact ⟨List.Perm.refl _, fun i hi => by cases hi⟩
    ·rw [if_neg (by omega)]
     exact ⟨h2, h3⟩
   obtain ⟨pa, qa⟩ := one _ _ (ih _ _ _ a ha)
   obtain ⟨pb, qb⟩ := one _ _ (ih _ _ _ b hb)
   refine .inr ⟨by omega, List.Perm.cons _ ?_, fun i hi => ?_⟩
   ·rw [List.flatMap_cons, List.flatMap_append]
    refine (List.Perm.append pa pb).trans ?_
    unfold chil
    rw [List.append_assoc, List.append_assoc]
    refine List.Perm.append_left _ ?_
    rw [← List.append_assoc, ← List.append_assoc]
    exact List.Perm.append_right _ List.perm_append_comm
   ·rcases List.mem_cons.1 hi with rfl | hi
    ·have e : ((tgt.toNat : Nat) : Int) = tgt := by omega
     rw [e]; exact hs
    ·rcases List.mem_append.1 hi with hi | hi
     ·exact qa i hi
     ·exact qb i hi
def onceP (S : List Sp) : Prop := ((List.range S.length).flatMap (chil S)).Nodup ∧ ∀ i, i < S.length → ∀ x ∈ chil S i, x < S.length
theorem chil_gt {i : Nat} (h : sons S i) : ∀ x ∈ chil S i, i < x ∧ x < S.length := by
 intro x hx
 unfold sons okN at h
 rw [Int.toNat_natCast] at h
 unfold chil at hx
 obtain ⟨h1, h2⟩ := h
 rcases List.mem_append.1 hx with hx | hx
 ·split at hx
  ·cases hx
  ·rw [List.mem_singleton.1 hx]; omega
 ·split at hx
  ·cases hx
  ·rw [List.mem_singleton.1 hx]; omega
theorem card_le : ∀ (N : Nat) (l : List Nat), l.Nodup → (∀ x ∈ l, x < N) → l.length ≤ N
 | 0, l, _, h => by
  cases l with
  | nil => exact Nat.le_refl _
  | cons x l => exact absurd (h x (by simp)) (by omega)
 | N + 1, l, hn, h => by
  have h1 := card_le N (l.erase N) (hn.erase N) fun x hx => by
   have h2 := h x (List.mem_of_mem_erase hx)
   have h3 : x ≠ N := fun e => by
    subst e
    exact (List.Nodup.mem_erase_iff hn).1 hx |>.1 rfl
   omega
  rw [List.length_erase] at h1
  split at h1 <;> omega
theorem all_once (f : Nat) (tgt : Int) (l : List Nat) (hto : tgt < 0 ∨ tgt = 0) (hN : tgt < S.length) (h : visP S n cl f tgt 0 0 = some l) : (l.Nodup ∧ ∀ i, i < S.length → i ∈ l) ↔ l.length = S.length ∧ onceP S := by
 have hlt : ∀ x ∈ l, x < S.length := fun x hx => (vis_lt f tgt 0 0 l (by omega) h x hx).1
 have hperm := vis_perm f tgt 0 0 l h
 constructor
 ·rintro ⟨hn, hc⟩
  have hp : l.Perm (List.range S.length) := by
   refine (List.perm_ext_iff_of_nodup hn List.nodup_range).2 fun x => ?_
   rw [List.mem_range]
   exact ⟨hlt x, hc x⟩
  refine ⟨by rw [hp.length_eq, List.length_range], ?_⟩
  rcases hperm with ⟨_, rfl⟩ | ⟨h0, hq, hs⟩
  ·have : S.length = 0 := by
    have := hp.length_eq
    rw [List.length_range] at this
    exact this.symm
   unfold onceP
   rw [this]
   exact ⟨List.nodup_nil, fun i hi => by omega⟩
  ·have h1 : (l.flatMap (chil S)).Nodup := (List.nodup_cons.1 (hq.nodup hn)).2
   exact ⟨(hp.flatMap_right (chil S)).nodup h1, fun i hi x hx => (chil_gt (hs i (hc i hi)) x hx).2⟩
 ·rintro ⟨hlen, ho, hx⟩
  rcases hperm with ⟨_, rfl⟩ | ⟨h0, hq, hs⟩
  ·refine ⟨List.nodup_nil, fun i hi => ?_⟩
   rw [← hlen] at hi
   exact absurd hi (Nat.not_lt_zero _)
  ·have hto0 : tgt.toNat = 0 := by omega
   rw [hto0] at hq
   have hcount : ∀ x, l.count x ≤ 1 := by
    intro x
    induction x using Nat.strongRecOn with
    | _ x ih =>
     rw [hq.count_eq, List.count_cons, List.count_flatMap]
     by_cases hx0 : x = 0
     ·have hz : ∀ (m : List Nat), (∀ i ∈ m, sons S i) → (m.map (List.count x ∘ chil S)).sum = 0 := by
       intro m
       induction m with
       | nil => intro _; rfl
       | cons i m ih =>
        intro hm
        rw [List.map_cons, List.sum_cons, ih fun i hi => hm i (by simp [hi])]
        show List.count x (chil S i) + 0 = 0
        rw [List.count_eq_zero.2 fun h => by have := (chil_gt (hm i (by simp)) x h).1; omega]
      rw [hz l hs]
      split <;> omega
     ·rw [if_neg (by simp; omega)]
      by_cases hex : ∃ i, i < S.length ∧ x ∈ chil S i
      ·obtain ⟨i, hi, hxi⟩ := hex
       have huniq : ∀ j, j < S.length → x ∈ chil S j → j = i := by
        intro j hj hxj
        refine Classical.byContradiction fun hne => ?_
        have hc2 := (List.nodup_iff_count.1 ho x)
        rw [List.count_flatMap] at hc2
        have hge : ∀ (m : List Nat), m.Nodup → i ∈ m → j ∈ m → 2 ≤ (m.map (List.count x ∘ chil S)).sum := by
         have hone : ∀ (q : Nat) (m : List Nat), x ∈ chil S q → q ∈ m → 1 ≤ (m.map (List.count x ∘ chil S)).sum := by
          intro q m hq hm
          induction m with
          | nil => cases hm
          | cons y m ih =>
           rw [List.map_cons, List.sum_cons]
           rcases List.mem_cons.1 hm with rfl | hm
           ·have : 0 < List.count x (chil S q) := List.count_pos_iff.2 hq
            show 1 ≤ List.count x (chil S q) + _
            omega
           ·have := ih hm
            omega
         intro m hm hi' hj'
         induction m with
         | nil => cases hi'
         | cons y m ih =>
          rw [List.map_cons, List.sum_cons]
          have hm2 := List.nodup_cons.1 hm
          rcases List.mem_cons.1 hi' with hiy | him
          ·subst hiy
           have h1 : 0 < List.count x (chil S i) := List.count_pos_iff.2 hxi
           rcases List.mem_cons.1 hj' with h2 | hj'
           ·exact absurd h2 hne
           ·have := hone j m hxj hj'
            show 2 ≤ List.count x (chil S i) + _
            omega
          ·rcases List.mem_cons.1 hj' with hjy | hj'
           ·subst hjy
            have h1 : 0 < List.count x (chil S j) := List.count_pos_iff.2 hxj
            have := hone i m hxi him
            show 2 ≤ List.count x (chil S j) + _
            omega
           ·have := ih hm2.2 him hj'
            omega
        have := hge _ List.nodup_range (List.mem_range.2 hi) (List.mem_range.2 hj)
        omega
       have hchild1 : List.count x (chil S i) ≤ 1 := by
        refine Nat.le_trans ?_ (List.nodup_iff_count.1 ho x)
        rw [List.count_flatMap]
        have hmem : i ∈ List.range S.length := List.mem_range.2 hi
        revert hmem
        generalize List.range S.length = m
        intro hmem
        induction m with
        | nil => cases hmem
        | cons y m ih =>
         rw [List.map_cons, List.sum_cons]
         rcases List.mem_cons.1 hmem with rfl | hmem
         ·show _ ≤ List.count x (chil S i) + _
          omega
         ·have := ih hmem
          omega
       by_cases hil : i ∈ l
       ·have hxlt := (chil_gt (hs i hil) x hxi).1
        have hib := ih i hxlt
        have hsum : ∀ (m : List Nat), (∀ y ∈ m, y < S.length) → (m.map (List.count x ∘ chil S)).sum ≤ List.count i m := by
         intro m
         induction m with
         | nil => intro _; exact Nat.le_refl _
         | cons y m ih =>
          intro hm
          rw [List.map_cons, List.sum_cons, List.count_cons]
          have := ih fun z hz => hm z (by simp [hz])
          by_cases hy : y = i
          ·subst hy
           rw [if_pos (by simp)]
           show List.count x (chil S y) + _ ≤ _
           omega
          ·rw [if_neg (by simpa using hy)]
           show List.count x (chil S y) + _ ≤ _
           rw [List.count_eq_zero.2 fun h => hy (huniq y (hm y (by simp)) h)]
           omega
        have := hsum l hlt
        omega
       ·have hsum : ∀ (m : List Nat), (∀ y ∈ m, y < S.length ∧ y ≠ i) → (m.map (List.count x ∘ chil S)).sum = 0 := by
         intro m
         induction m with
         | nil => intro _; rfl
         | cons y m ih =>
          intro hm
          rw [List.map_cons, List.sum_cons, ih fun z hz => hm z (by simp [hz])]
          show List.count x (chil S y) + 0 = 0
          rw [List.count_eq_zero.2 fun h => (hm y (by simp)).2 (huniq y (hm y (by simp)).1 h)]
        rw [hsum l fun y hy => ⟨hlt y hy, fun e => hil (e ▸ hy)⟩]
        omega
      ·have hsum : ∀ (m : List Nat), (∀ y ∈ m, y < S.length) → (m.map (List.count x ∘ chil S)).sum = 0 := by
        intro m
        induction m with
        | nil => intro _; rfl
        | cons y m ih =>
         intro hm
         rw [List.map_cons, List.sum_cons, ih fun z hz => hm z (by simp [hz])]
         show List.count x (chil S y) + 0 = 0
         rw [List.count_eq_zero.2 fun h => hex ⟨y, hm y (by simp), h⟩]
       rw [hsum l hlt]
       omega
   have hnd : l.Nodup := List.nodup_iff_count.2 hcount
   refine ⟨hnd, fun i hi => ?_⟩
   refine Classical.byContradiction fun hni => ?_
   have := card_le S.length (i :: l) (List.nodup_cons.2 ⟨hni, hnd⟩) (fun x hx => by
    rcases List.mem_cons.1 hx with rfl | hx
    ·exact hi
    ·exact hlt x hx)
   rw [List.length_cons] at this
   omega
end
end Go.Proofs.YtcaogllnbpmcgaaDoor.Q
namespace Go.Proofs.YtcaogllnbpmcgaaDoor.M
open Go Go.RowKit
theorem andNot_nat (a b : Nat) (ha : a < 65536) (hb : b < 65536) : ∃ v : Nat, Go.bits .andNot .i64 (a : Int) (b : Int) = (v : Int) ∧ ∀ i, v.testBit i = (a.testBit i && !b.testBit i) := by
 have ea : a % 2 ^ IntKind.i64.bits = a := Nat.mod_eq_of_lt (Nat.lt_of_lt_of_le ha (by decide))
 have eb : b % 2 ^ IntKind.i64.bits = b := Nat.mod_eq_of_lt (Nat.lt_of_lt_of_le hb (by decide))
 refine ⟨(BitVec.ofNat IntKind.i64.bits a &&& ~~~ BitVec.ofNat IntKind.i64.bits b).toNat, ?_, fun i => ?_⟩
 ·simp only [Go.bits, BitVec.ofInt_natCast]
  have hle : (BitVec.ofNat IntKind.i64.bits a &&& ~~~BitVec.ofNat IntKind.i64.bits b).toNat ≤ a := by
   rw [BitVec.toNat_and, BitVec.toNat_ofNat, ea]
   exact Nat.and_le_left
  generalize (BitVec.ofNat IntKind.i64.bits a &&& ~~~BitVec.ofNat IntKind.i64.bits b).toNat = v at hle ⊢
  exact wraps_i64 _ (by omega) (by omega)
 ·rw [BitVec.testBit_toNat, BitVec.getLsbD_and, BitVec.getLsbD_not, ← BitVec.testBit_toNat, ← BitVec.testBit_toNat, BitVec.toNat_ofNat, BitVec.toNat_ofNat, ea, eb]
  by_cases hi : i < IntKind.i64.bits
  ·simp [hi]
  ·have : a.testBit i = false := Nat.testBit_lt_two_pow (Nat.lt_of_lt_of_le ha (Nat.le_trans (show 65536 ≤ 2 ^ IntKind.i64.bits by decide) (Nat.pow_le_pow_right (by decide) (by omega))))
   simp [hi, this]
theorem andNot_zero (a b : Nat) (ha : a < 65536) (hb : b < 65536) : (Go.bits .andNot .i64 (a : Int) (b : Int) == 0) = true ↔ ∀ i, a.testBit i = true → b.testBit i = true := by
 obtain ⟨v, hv, hbit⟩ := andNot_nat a b ha hb
 rw [hv, beq_iff_eq]
 constructor
 ·intro h i hi
  have h0 : v = 0 := by omega
  have := hbit i
  rw [h0, hi] at this
  simp at this
  exact this
 ·intro h
  have : v = 0 := Nat.eq_of_testBit_eq fun i => by
   rw [hbit i, Nat.zero_testBit]
   cases hai : a.testBit i with
   | false => rfl
   | true => rw [h i hai]; rfl
  omega
end Go.Proofs.YtcaogllnbpmcgaaDoor.M
namespace Go.Proofs.YtcaogllnbpmcgaaDoor.M
open Go Go.RowKit Go.Proofs.YtcaogllnbpmcgaaDoorW.PrintWords Go.Proofs.YtcaogllnbpmcgaaDoor.P Go.Maps
set_option maxHeartbeats 4000000 in
set_option maxRecDepth 100000 in
theorem closed_lit (kn wd i : Nat) (hk : kn < 65536) (hi : i < 65536) (a b : Addr) (W : World) (ca : W.cell? a = some (.int .i64 (kn : Int))) (cb : W.cell? b = some (.int .i64 (wd : Int))) :
  Calls Tryd.prog 66 #[.int .i64 (i : Int), .pointer (some a), .pointer (some b)] W fun e W' => e = .returned (.bool ((i &&& kn) == wd)) ∧ Below W.heap.size W W' := by
 have hA := and_nat' i kn (by omega) (by omega)
 go_enter Tryd.func66, Tryd.ntmps66
 go_wp2
 go_ret
 refine ⟨?_, Below.refl _ _⟩
 show Ending.returned (Value.bool (((i &&& kn : Nat) : Int) == (wd : Int))) = _
 congr 2
 rw [Bool.eq_iff_iff, beq_iff_eq, beq_iff_eq]
 omega
abbrev CD := DataW Unit
def fF : CD := .lit (.bool false)
def keyC (t : Int) : Lit := .int .i64 t
theorem lawC : Keyed Tryd.prog 3 := int_keyed Tryd.underlying3
theorem zeroC (w : World) : (zeroValue 4).run Tryd.prog w = .ok (.bool false) w := by kernel_rfl
def HasC (B k : Nat) (D : CD) (w : World) : Prop := w.ownsMap Tryd.prog 3 (plainElem Tryd.prog 4) B k D
theorem HasC.below {B k : Nat} {D : CD} {w w' : World} (h : HasC B k D w) (hb : Below w.heap.size w w') : HasC B k D w' := World.ownsMap.kept h (grown_of_below hb none) (by simp)
theorem wfC {x : Int} (h0 : -1000000 ≤ x) (h1 : x ≤ 1000000) : (Lit.int .i64 x).wf = true := by
 simp [Lit.wf, IntKind.min, IntKind.max, IntKind.bits, IntKind.signed]
 omega
theorem keyC_of (t : Int) (h0 : -1000000 ≤ t) (h1 : t ≤ 1000000) : keyOf Tryd.prog 3 (.int .i64 t) = some (keyC t) := keyOf_int_mk Tryd.underlying3 (wfC h0 h1)
theorem boolC (x : Bool) : plainElem (H := Unit) Tryd.prog 4 (.bool x) = some (.lit (.bool x), []) := plainElem_bool Tryd.underlying4 x
theorem keyC_ne {t t' : Int} (h : t' ≠ t) : keyC t' ≠ keyC t := fun e => h (by
 unfold keyC at e
 injection e)
theorem wpList_insert_own {H : Type} {P : Program} (w : World) {ops : Array Oper} {rest : List Oper} {o : Oper} {a : Act} {Q : Exit → Act → World → Prop}
  (hg : o.guard = none) (m x v : Operand) (t : TypeId) (hop : o.op = Op.insert t m x v)
  (k e : TypeId) (K : Keyed P k) (ht : P.underlying t = some (.map k e)) (R : Value → Option (DataW H × List MemPlace)) (b n : Nat) (D : DataW H)
  (hm : a.eval m = .map (some b)) (hown : w.ownsMap P k R b n D) (hn : n < maxLen) (key val : Value) (kl : Lit) (hx : a.eval x = key) (hv : a.eval v = val) (hkey : keyOf P k key = some kl)
  (d : DataW H) (ps : List MemPlace) (hval : R val = some (d, ps))
  (hK : ∀ w', w'.ownsMap P k R b (n + 1) (D.put kl d) → w.grownBy w' (some b) → wpList P ops Q rest (a.put o.dst undef) w') :
  wpList P ops Q (o :: rest) a w := by
 refine wpList_plain hg fun K' hK' => ?_
 obtain ⟨w', hrun, r1, r2⟩ := hown.update K ht hn hkey hval
 unfold Oper.wp
 simp [execOp, hop, hm, hx, hv, hrun, Result.andThen]
 exact hK' _ _ (hK w' r1 r2)
theorem gate_insert {P : Program} {ops : Array Oper} {rest : List Oper} {o : Oper} {a : Act} {Q : Exit → Act → World → Prop} {w : World} {t : TypeId} {m k v : Operand} (_ho : o.op = .insert t m k v) (h : wpList P ops Q (o :: rest) a w) : wpList P ops Q (o :: rest) a w := h
def agreeN (n kn wd : Nat) : Nat := tabN (fun w => (w &&& kn) == wd) (pw n)
theorem ppw16 {n : Nat} (h : n ≤ 4) : pw (pw n) ≤ 65536 := Nat.pow_le_pow_right (n := 2) (by decide) (Nat.pow_le_pow_right (n := 2) (by decide) h)
theorem agreeN_lt (n kn wd : Nat) (h : n ≤ 4) : agreeN n kn wd < 65536 := Nat.lt_of_lt_of_le (tabN_lt _ _) (ppw16 h)
theorem tabQ_lt (n : Nat) (h : n ≤ 4) (p : Nat → Bool) : tabN p (pw n) < 65536 := Nat.lt_of_lt_of_le (tabN_lt _ _) (ppw16 h)
theorem close_goal (n kn wd : Nat) (h : n ≤ 4) (hold : Nat → Bool) : (Go.bits .andNot .i64 ((agreeN n kn wd : Nat) : Int) ((tabN hold (pw n) : Nat) : Int) == 0) = Q.goalM n kn wd hold := by
 rw [Bool.eq_iff_iff, andNot_zero _ _ (agreeN_lt n kn wd h) (tabQ_lt n h _), Q.goalM_iff]
 constructor
 ·intro h w hw hm
  have := h w ((bit_test _ _).1 ((tab_bit _ _ _).2 ⟨hw, beq_iff_eq.2 hm⟩))
  exact ((tab_bit _ _ _).1 ((bit_test _ _).2 this)).2
 ·intro h w hw
  obtain ⟨h1, h2⟩ := (tab_bit _ _ _).1 ((bit_test _ _).2 hw)
  exact (bit_test _ _).1 ((tab_bit _ _ _).2 ⟨h1, h w h1 (beq_iff_eq.1 h2)⟩)
theorem close_claim (n kn wd : Nat) (h : n ≤ 4) (may : Nat → Bool) : (Go.bits .and .i64 ((agreeN n kn wd : Nat) : Int) ((tabN may (pw n) : Nat) : Int) == 0) = Q.goalM n kn wd (fun w => !may w) := by
 rw [and_nat' _ _ (by have := agreeN_lt n kn wd h; omega) (by have := tabQ_lt n h may; omega), Bool.eq_iff_iff, beq_iff_eq, Q.goalM_iff]
 have e : ((agreeN n kn wd &&& tabN may (pw n) : Nat) : Int) = 0 ↔ agreeN n kn wd &&& tabN may (pw n) = 0 := by omega
 rw [e]
 constructor
 ·intro h w hw hm
  have h2 : (agreeN n kn wd &&& tabN may (pw n)).testBit w = false := by rw [h, Nat.zero_testBit]
  have h3 : (agreeN n kn wd).testBit w = true := (bit_test _ _).1 ((tab_bit (fun w => (w &&& kn) == wd) _ _).2 ⟨hw, beq_iff_eq.2 hm⟩)
  rw [Nat.testBit_and, h3, Bool.true_and] at h2
  cases hx : may w with
  | false => rfl
  | true =>
   have h4 : (tabN may (pw n)).testBit w = true := (bit_test _ _).1 ((tab_bit _ _ _).2 ⟨hw, hx⟩)
   rw [h4] at h2
   cases h2
 ·intro h
  refine Nat.eq_of_testBit_eq fun w => ?_
  rw [Nat.zero_testBit, Nat.testBit_and]
  cases hx : (agreeN n kn wd).testBit w with
  | false => rfl
  | true =>
   obtain ⟨h1, h2⟩ := (tab_bit _ _ _).1 ((bit_test _ _).2 hx)
   have := h w h1 (beq_iff_eq.1 h2)
   cases hy : (tabN may (pw n)).testBit w with
   | false => rfl
   | true =>
    have h3 := ((tab_bit _ _ _).1 ((bit_test _ _).2 hy)).2
    rw [h3] at this
    cases this
def holdT (t : List Mk) : Nat → Bool := holdB t
def mayT (s : List Cl) (i : Nat) : Nat → Bool := mayB (s.getD i zC).f0.toNat (s.getD i zC).f1
def ClD (n : Nat) (s : List Cl) (t : List Mk) (kn wd m : Nat) (D : CD) : Prop := IsMap D ∧ ∀ x : Int, D.atKey (keyC x) fF = .lit (.bool (Q.clM n m (holdT t) (mayT s) kn wd x))
theorem clM_zero (n : Nat) (hold : Nat → Bool) (may : Nat → Nat → Bool) (kn wd : Nat) (x : Int) : Q.clM n 0 hold may kn wd x = if x = -1 then Q.goalM n kn wd hold else false := by
 unfold Q.clM
 by_cases h : x = -1
 ·rw [if_pos h, if_pos h]
 ·rw [if_neg h, if_neg h, if_neg (by omega)]
theorem clD_first (n : Nat) (s : List Cl) (t : List Mk) (kn wd : Nat) : ClD n s t kn wd 0 ((DataW.map [] : CD).put (keyC (-1)) (.lit (.bool (Q.goalM n kn wd (holdT t))))) := by
 refine ⟨isMap_empty.put _ _, fun x => ?_⟩
 rw [clM_zero]
 by_cases h : x = -1
 ·subst h
  rw [if_pos rfl]
  exact atKey_put_same isMap_empty (show WideAt.IsKeyLit (Lit.int .i64 _) from trivial) _ _
 ·rw [if_neg h, atKey_put_other (keyC_ne h)]
  rfl
theorem clD_next {n : Nat} {s : List Cl} {t : List Mk} {kn wd m : Nat} {D : CD} (h : ClD n s t kn wd m D) : ClD n s t kn wd (m + 1) (D.put (keyC (-2 - (m : Int))) (.lit (.bool (Q.goalM n kn wd (fun w => !mayT s m w))))) := by
 refine ⟨h.1.put _ _, fun x => ?_⟩
 by_cases hx : x = -2 - (m : Int)
 ·subst hx
  rw [atKey_put_same h.1 (show WideAt.IsKeyLit (keyC (-2 - (m : Int))) from trivial)]
  unfold Q.clM
  rw [if_neg (by omega), if_pos (by omega), show (-2 - (-2 - (m : Int))).toNat = m by omega]
 ·rw [atKey_put_other (keyC_ne hx), h.2]
  unfold Q.clM
  by_cases h1 : x = -1
  ·rw [if_pos h1, if_pos h1]
  ·rw [if_neg h1, if_neg h1]
   by_cases h2 : 0 ≤ -2 - x ∧ -2 - x < m
   ·rw [if_pos h2, if_pos (by omega)]
   ·rw [if_neg h2, if_neg (by omega)]
def ClosedIs (n : Nat) (s : List Cl) (t : List Mk) (kn wd : Nat) (w : World) (e : Ending) (w' : World) : Prop :=
 ∃ (B k : Nat) (D : CD), e = .returned (.map (some B)) ∧ HasC B k D w' ∧ w.heap.size ≤ B ∧ Below w.heap.size w w' ∧ ClD n s t kn wd s.length D
theorem table_closed (n : Nat) (h1 : 1 ≤ n) (h4 : n ≤ 4) (kn wd b0 b1 : Nat) (hk : kn < 16) (W1 : World) (c0 : W1.heap[b0]? = some (.cells #[.int .i64 (kn : Int)] 3 (0, 0))) (c1 : W1.heap[b1]? = some (.cells #[.int .i64 (wd : Int)] 3 (0, 0))) :
  Calls Tryd.prog 65 #[.int .i64 (n : Int), .func (.func 66) #[] #[.pointer (some ⟨b0, 0, none⟩), .pointer (some ⟨b1, 0, none⟩)]] W1 fun e W' => e = .returned (.int .i64 ((agreeN n kn wd : Nat) : Int)) ∧ Below W1.heap.size W1 W' := by
 have := tableBy_closedBy (.pointer (some ⟨b0, 0, none⟩)) (.pointer (some ⟨b1, 0, none⟩)) (n : Int) (by omega) (fun x => (x &&& kn) == wd) W1 fun i W i0 i1 hb => by
  obtain ⟨m, rfl⟩ : ∃ m : Nat, i = (m : Int) := ⟨i.toNat, by omega⟩
  have h16 : (2 : Int) ^ (n : Int).toNat ≤ 16 := by
   have : (2 : Nat) ^ (n : Int).toNat ≤ 2 ^ 4 := Nat.pow_le_pow_right (by decide) (by omega)
   exact_mod_cast this
  rw [Int.toNat_natCast]
  exact closed_lit kn wd m (by omega) (by omega) ⟨b0, 0, none⟩ ⟨b1, 0, none⟩ W (cell_of_one (blk_below c0 hb)) (cell_of_one (blk_below c1 hb))
 rw [Int.toNat_natCast] at this
 exact this
set_option maxHeartbeats 16000000 in
set_option maxRecDepth 100000 in
theorem closed_calls (n : Nat) (s : List Cl) (A1 : Option Addr) (c1 : Nat) (t : List Mk) (A2 : Option Addr) (c2 : Nat) (kn wd : Nat) (w : World) (hC : Kd.C k79 w A1 s.length s) (hc : s.length ≤ c1)
  (hT : Kd.C k82 w A2 t.length t) (hct : t.length ≤ c2) (hS : StoryP (n : Int) s) (hP : TermP (n : Int) t) (hkn : kn < 16) (hwd : wd < 16) :
  Calls Tryd.prog 37 #[.int .i64 (n : Int), .slice A1 s.length c1, .slice A2 t.length c2, .int .i64 (kn : Int), .int .i64 (wd : Int)] w (ClosedIs n s t kn wd w) := by
 have hn := hS.2.1
 have h6 := hS.2.2
 have hn1 : 1 ≤ n := by omega
 have hn4 : n ≤ 4 := by omega
 have HT := fun W1 h0 h1 => table_closed n hn1 hn4 kn wd w.heap.size (w.heap.size + 1) hkn W1 h0 h1
 have HTT := Lib.hid (show impl_TableOf.f (n : Int) t = some ((tabN (holdB t) (pw n) : Nat) : Int) by unfold impl_TableOf.f; rw [if_pos hP, Int.toNat_natCast])
 obtain ⟨x0, hx0⟩ : ∃ x0 : Int, Go.bits .andNot .i64 ((agreeN n kn wd : Nat) : Int) ((tabN (holdB t) (pw n) : Nat) : Int) = x0 := ⟨_, rfl⟩
 obtain ⟨b0, hb0⟩ : ∃ b : Bool, Q.goalM n kn wd (holdT t) = b := ⟨_, rfl⟩
 have hxb : (x0 == 0) = b0 := by rw [← hx0, ← hb0]; exact close_goal n kn wd hn4 (holdB t)
 have HB0 := Lib.hid hb0
 have HCC := Lib.hid hC
 have HCT := Lib.hid hT
 have HS := Lib.hid hS
 have hmm := @run_makeMap Tryd.prog
 obtain ⟨ag, hag⟩ : ∃ ag : Int, ((agreeN n kn wd : Nat) : Int) = ag := ⟨_, rfl⟩
 obtain ⟨tb, htb⟩ : ∃ tb : Int, ((tabN (holdB t) (pw n) : Nat) : Int) = tb := ⟨_, rfl⟩
 have HAG := Lib.hid hag
 simp only [hag] at HT hx0
 rw [htb] at HTT hx0
 have E0 : ((w.alloc (.cells #[.int .i64 (kn : Int)] 3)).alloc (.cells #[.int .i64 (wd : Int)] 3)).heap[w.heap.size]? = some (.cells #[.int .i64 (kn : Int)] 3 (0, 0)) := blk_alloc (blk_new _ _) _
 have E1 : ((w.alloc (.cells #[.int .i64 (kn : Int)] 3)).alloc (.cells #[.int .i64 (wd : Int)] 3)).heap[w.heap.size + 1]? = some (.cells #[.int .i64 (wd : Int)] 3 (0, 0)) := by
  have := blk_new (w.alloc (.cells #[.int .i64 (kn : Int)] 3)) (.cells #[.int .i64 (wd : Int)] 3)
  simpa using this
 have HW1 : Hid (Below w.heap.size w ((w.alloc (.cells #[.int .i64 (kn : Int)] 3)).alloc (.cells #[.int .i64 (wd : Int)] 3))) := Lib.hid (below_alloc (below_alloc (Below.refl _ _) _) _)
 have T1 := Lib.hid (HT _ E0 E1)
 have hB2 : w.heap.size ≤ w.heap.size := Nat.le_refl _
 clear hC hT hS hP hb0 hag htb E0 E1 HT hkn hwd
 go_enter Tryd.func37, Tryd.ntmps37
 go_wp2_with (first | (go_at_call 65; (refine T1.out.mono ?_); rintro e w2 ⟨rfl, hb2⟩; have HW2 := Lib.hid (below_step HW1.out hb2); clear hb2) | (go_at_call 67; (refine (impl_TableOf.calls (n : Int) A2 c2 t tb _ (Kd.C_below HCT.out (by repeat (first | exact HW2.out | apply below_alloc))) hct HTT.out).mono ?_); rintro e w3 ⟨rfl, hb3⟩; have hown3 := HasC.below (World.ownsMap_made _ _ _ _) hb3; have HW3 := Lib.hid (below_step (by repeat (first | exact HW2.out | apply below_alloc)) hb3)) | ((with_reducible refine gate_insert rfl ?_); refine wpList_insert_own _ rfl _ _ _ _ rfl 3 4 lawC Tryd.underlying65 _ w2.heap.size 0 (.map []) rfl hown3 (by unfold maxLen; omega) _ _ (keyC (-1)) rfl rfl (keyC_of _ (by omega) (by omega)) (.lit (.bool b0)) [] (boolC b0) ?_; intro w4 hown4 hg4; have HW4 := Lib.hid (HW3.out.grown hg4 (Nat.le_trans HW2.out.size (Nat.le_trans (by simp) hb3.size)) (fun j hj => by cases hj; exact HW2.out.size)); clear hg4))
 have hcl0 := clD_first n s t kn wd
 rw [HB0.out] at hcl0
 have hB := HW2.out.size
 have hown4' : HasC w2.heap.size 1 _ w4 := hown4
 obtain ⟨D0, hD0⟩ : ∃ D : CD, (DataW.map [] : CD).put (keyC (-1)) (.lit (.bool b0)) = D := ⟨_, rfl⟩
 rw [hD0] at hcl0 hown4'
 clear hD0 hown4 hown3 hb3
 obtain ⟨B, hBe⟩ : ∃ B : Nat, w2.heap.size = B := ⟨_, rfl⟩
 simp only [hBe] at *
 clear hBe
 go_loopg [28] s.length (fun kq v28 w' => ∃ (m : Nat) (x : Int) (D : CD), v28 = .int .i64 x ∧ Hid (x = (m : Int)) ∧ m + kq = s.length ∧ HasC B (m + 1) D w' ∧ ClD n s t kn wd m D ∧ Hid (Below w.heap.size w w'))
 case atStart => exact ⟨0, 0, D0, rfl, Lib.hid rfl, by omega, hown4', hcl0, HW4⟩
 case round =>
  clear hcl0 hown4' HW4
  obtain ⟨m, x, D, rfl, hxm, hmk, hown, hcl, HB⟩ := hrel
  have hxm' := hxm.out
  by_cases hlt : m < s.length
  ·have c6b0 : decide (x < (s.length : Int)) = true := decide_eq_true (by omega)
   have p284 : 0 ≤ x := by omega
   have q284 : x < (s.length : Int) := by omega
   cases gk with
   | zero => omega
   | succ k1 =>
   have hw64 : wrap64 (x + 1) = ((m + 1 : Nat) : Int) := by rw [hxm', Go.Proofs.YtcaogllnbpmcgaaDoor.M.w64 (by omega) (by omega)]; omega
   have hw64b : wrap64 (-2 - x) = -2 - x := Go.Proofs.YtcaogllnbpmcgaaDoor.M.w64 (by omega) (by omega)
   have hcP : ClaimP (n : Int) ((rd_T79 s x).f0) ((rd_T79 s x).f1) := by rw [hxm', rdC]; exact HS.out.1 m hlt
   obtain ⟨x1, hx1⟩ : ∃ x1 : Int, Go.bits .and .i64 ag ((tabN (mayT s m) (pw n) : Nat) : Int) = x1 := ⟨_, rfl⟩
   obtain ⟨b1, hb1⟩ : ∃ b : Bool, Q.goalM n kn wd (fun w => !mayT s m w) = b := ⟨_, rfl⟩
   have hxb1 : (x1 == 0) = b1 := by rw [← hx1, ← hb1, ← HAG.out]; exact close_claim n kn wd hn4 (mayT s m)
   obtain ⟨tc, htc⟩ : ∃ tc : Int, ((tabN (mayT s m) (pw n) : Nat) : Int) = tc := ⟨_, rfl⟩
   rw [htc] at hx1
   have hcn := clD_next (m := m) hcl
   rw [hb1, ← hxm'] at hcn
   have A9 := Lib.hid (show impl_ClaimTable.f (n : Int) ((rd_T79 s x).f0) ((rd_T79 s x).f1) = some tc by
    unfold impl_ClaimTable.f
    rw [if_pos hcP, Int.toNat_natCast, ← htc, hxm', rdC]
    rfl)
   obtain ⟨ad284, A284_1, c284_1, e284, hx284_0, hx284_1, hl284_1, hi284_1⟩ := at_T79 HCC.out x p284 q284
   cases e284
   replace hx284_0 := (HB.out.cell (World.block_lt_of_cell? w _ hx284_0)).trans hx284_0
   replace hx284_1 := (HB.out.cell (World.block_lt_of_cell? w _ hx284_1)).trans hx284_1
   have HR284_1 := Lib.hid hi284_1
   have HC284_1 := Lib.hid hl284_1
   have hown0 := hown
   have hgrab := Lib.hid (show w.heap.size ≤ wr.heap.size from HB.out.size)
   have hnk := keyC_of (-2 - x) (by omega) (by omega)
   have hm1 : m + 1 < maxLen := by unfold maxLen; omega
   clear hi284_1 hl284_1 hcP htc hb1 hcl hown hxm'
   replace p284 := eq_true p284
   replace q284 := eq_true q284
   go_wp2_with (first
    | ((with_reducible refine gate_dst (N := 14) rfl ?_); refine box_event ?hg (N := 14) ?hd (cs := #[.int .i64 0, .slice none 0 0]) (t := 79) ?hr ?_; (case hd => rfl); (case hg => rfl); (case hr => first | (go_simp; done) | (go_simp; rfl)); intro gb285 hg w10 hbox hb; have n0_ := Lib.hid (below_step (below_at HB.out) hb); have GW285 := Lib.hid (by rw [hg]; exact hgrab.out : w.heap.size ≤ gb285); have GE285 := Lib.hid (by rw [hg]; exact Nat.le_refl _ : wr.heap.size ≤ gb285); have BW := Lib.hid hb; have BK285 := Lib.hid hbox; clear HB; have HB := n0_; clear n0_; clear hb hbox hg; have hcz11_0 : w10.cell? ⟨gb285, 0, none⟩ = some (.int .i64 0) := (blk_cell BK285.out 0).trans rfl; have hcz11_1 : w10.cell? ⟨gb285, 1, none⟩ = some (.slice none 0 0) := (blk_cell BK285.out 1).trans rfl; have hfz11_0 := blk_frozen BK285.out 0; have hfz11_1 := blk_frozen BK285.out 1)
    | (go_at_call 68; (with_reducible refine (impl_ClaimTable.calls (n : Int) ((rd_T79 s x).f0) _ _ ((rd_T79 s x).f1) tc _ ?side1 ?side2 A9.out).mono ?_); (case side1 => exact Kd.C_below HR284_1.out (by repeat (first | (with_reducible first | exact HB.out | apply below_alloc | refine below_set ?_ GW285.out) | exact HB.out))); (case side2 => exact HC284_1.out); rintro e w12 ⟨rfl, hb⟩; have n0_ := Lib.hid (below_step (by repeat (first | (with_reducible first | exact HB.out | apply below_alloc | refine below_set ?_ GW285.out) | exact HB.out)) hb); have hown1 := HasC.below hown0 (below_step (by repeat (first | (with_reducible first | exact BW.out | apply below_alloc | refine below_set ?_ GE285.out) | exact BW.out)) hb); clear HB; have HB := n0_; clear n0_; clear hb)
    | (at_mapUpdate; refine wpList_mapUpdate_own _ rfl _ _ _ _ rfl 3 4 lawC Tryd.underlying65 _ B (m + 1) D rfl hown1 hm1 _ _ (keyC (-2 - x)) rfl rfl hnk (.lit (.bool b1)) [] (boolC b1) ?_; intro w13 hown2 hg2; have n0_ := Lib.hid (HB.out.grown hg2 HB.out.size (fun j hj => by cases hj; exact hB)); clear HB; have HB := n0_; clear n0_ hg2))
   go_roundg k1
   case measure => omega
   case rel => exact ⟨m + 1, _, _, by first | rfl | (rw [hw64]; done), Lib.hid rfl, by omega, hown2, hcn, HB⟩
  ·have c6b0 : decide (x < (s.length : Int)) = false := decide_eq_false (by omega)
   go_wp2
   go_ret
   obtain rfl : m = s.length := by omega
   exact ⟨B, _, D, rfl, hown, hB, HB.out, hcl⟩
end Go.Proofs.YtcaogllnbpmcgaaDoor.M
namespace Go.Proofs.YtcaogllnbpmcgaaDoor.M
open Go Go.RowKit Go.Proofs.YtcaogllnbpmcgaaDoorW.PrintWords Go.Proofs.YtcaogllnbpmcgaaDoorW.PrintLast Go.Proofs.YtcaogllnbpmcgaaDoorW.PrintMore Go.Proofs.YtcaogllnbpmcgaaDoor.P Go.Maps
abbrev ptr (b : Nat) : Value := .pointer (some ⟨b, 0, none⟩)
theorem plain_bool_inv {P : Program} {e : TypeId} (he : P.underlying e = some .bool) {v : Value} {b : Bool} {ps : List MemPlace} (h : plainElem (H := Unit) P e v = some (.lit (.bool b), ps)) : v = .bool b := by
 unfold plainElem at h
 rw [he] at h
 cases v <;> simp at h
 rw [h.1]
theorem wpList_lookup_b {P : Program} (w : World) {ops : Array Oper} {rest : List Oper} {o : Oper} {a : Act} {Q : Exit → Act → World → Prop}
  (hg : o.guard = none) (m x : Operand) (t : TypeId) (hop : o.op = Op.lookup t m x false)
  (k e : TypeId) (K : Keyed P k) (ht : P.underlying t = some (.map k e)) (he : P.underlying e = some .bool) (hz : (zeroValue e).run P w = .ok (.bool false) w) (b n : Nat) (D : CD)
  (hm : a.eval m = .map (some b)) (hown : w.ownsMap P k (plainElem P e) b n D) (key : Value) (kl : Lit) (hx : a.eval x = key) (hkey : keyOf P k key = some kl) (c : Bool) (hat : D.atKey kl (.lit (.bool false)) = .lit (.bool c))
  (hK : wpList P ops Q rest (a.put o.dst (.bool c)) w) :
  wpList P ops Q (o :: rest) a w := by
 refine wpList_plain hg fun K' hK' => ?_
 obtain ⟨v, ps, hrun, hv⟩ := hown.lookup K ht hz (plainElem_bool he false) hkey
 rw [hat] at hv
 obtain rfl := plain_bool_inv he hv
 unfold Oper.wp
 simp [execOp, hop, hm, hx, hrun, Result.andThen]
 exact hK' _ _ hK
theorem keyL_of (t : Int) (h0 : -9223372036854775808 ≤ t) (h1 : t ≤ 9223372036854775807) : keyOf Tryd.prog 3 (.int .i64 t) = some (keyC t) := keyOf_int_mk Tryd.underlying3 (by
 simp [Lit.wf, IntKind.min, IntKind.max, IntKind.bits, IntKind.signed]
 omega)
theorem or_natQ (a b : Nat) (ha : a < 4294967296) (hb : b < 4294967296) : Go.bits .or .i64 (a : Int) (b : Int) = ((a ||| b : Nat) : Int) :=
 (bits_nat .i64 63 (by decide) wraps_i64 a b (by omega) (by omega)).2
theorem goesV_ {P : Program} {ops : Array Oper} {Q : Exit → Act → World → Prop} {oi : Oper} {N : Option Tmp} {a : Act} {w : World} {K : Act → World → Prop} {f : FuncId} {fn : Func} {x : Operand} {cap : Array Value} {aa : Array Operand} {ts : Array TypeId} (hf : P.funcs[f]? = some fn) (hname : (fn.name == "runtime.NumGoroutine") = false) (hb : fn.body.isSome = true) (args : Array Value)
  (hw : Region.wanted oi (yielded ops a.tmps) = true) (hN : oi.dst = N) (hop : oi.op = .call { callee := .value x, args := aa, argTypes := ts }) (hx : a.eval x = .func (.func f) #[] cap) (hargs : aa.map a.eval ++ cap = args)
  (h : Calls P f args w fun e w' => ∃ v, e = .returned v ∧ K (a.put N v) w') : if Region.wanted oi (yielded ops a.tmps) = true then Oper.wp P oi a w K Q else K (a.put N undef) w := by
 refine call_ f args hw hN ?_ h
 have he := enters_ hf hname hb args w
 unfold execOp
 simp [hop, resolve, Deferred.ofValue, invoke, hx, hargs, he]
structure CE (n : Nat) (s : List Cl) (A1 : Option Addr) (c1 : Nat) (t : List Mk) (A2 : Option Addr) (c2 : Nat) (fi : Int) (S : List Q.Sp) (A3 : Option Addr) (c3 b0 b1 b2 b3 b4 b5 g : Nat) (w0 W : World) (come : List Bool) : Prop where
 hp : W.heap[b0]? = some (.cells #[.int .i64 (n : Int)] 3 (0, 0))
 hs : W.heap[b1]? = some (.cells #[.slice A1 s.length c1] 23 (0, 0))
 ht : W.heap[b2]? = some (.cells #[.slice A2 t.length c2] 24 (0, 0))
 hq : W.heap[b3]? = some (.cells #[.int .i64 fi, .slice A3 S.length c3] 27 (0, 0))
 hc : W.heap[b4]? = some (.cells #[.slice (some ⟨g, 0, none⟩) S.length S.length] 63 (0, 0))
 hk : W.heap[b5]? = some (.cells #[.func (.func 36) #[] #[ptr b0, ptr b1, ptr b2, ptr b3, ptr b4, ptr b5]] 64 (0, 0))
 hg : W.heap[g]? = some (.cells (come.map Value.bool).toArray 4 (0, 0))
 hl : come.length = S.length
 hb : Below w0.heap.size w0 W
 hgB : w0.heap.size ≤ g
theorem blk_ne_ {w : World} {g g' t t' : Nat} {cs cs' : Array Value} (h : w.heap[g]? = some (.cells cs t (0, 0))) (h' : w.heap[g']? = some (.cells cs' t' (0, 0))) (hne : t ≠ t') : g ≠ g' := by
 rintro rfl
 rw [h] at h'
 injection h' with h'
 injection h' with _ h'
 exact hne h'
section
variable {n : Nat} {s : List Cl} {A1 : Option Addr} {c1 : Nat} {t : List Mk} {A2 : Option Addr} {c2 : Nat} {fi : Int} {S : List Q.Sp} {A3 : Option Addr} {c3 b0 b1 b2 b3 b4 b5 g : Nat} {w0 W W' : World} {come : List Bool}
theorem CE.below (h : CE n s A1 c1 t A2 c2 fi S A3 c3 b0 b1 b2 b3 b4 b5 g w0 W come) (hb : Below W.heap.size W W') : CE n s A1 c1 t A2 c2 fi S A3 c3 b0 b1 b2 b3 b4 b5 g w0 W' come :=
 ⟨blk_below h.hp hb, blk_below h.hs hb, blk_below h.ht hb, blk_below h.hq hb, blk_below h.hc hb, blk_below h.hk hb, blk_below h.hg hb, h.hl, below_step h.hb hb, h.hgB⟩
theorem CE.store (h : CE n s A1 c1 t A2 c2 fi S A3 c3 b0 b1 b2 b3 b4 b5 g w0 W come) (i : Nat) (hi : i < S.length) : CE n s A1 c1 t A2 c2 fi S A3 c3 b0 b1 b2 b3 b4 b5 g w0 (W.setCell ⟨g, i, none⟩ (.bool true)) (come.set i true) := by
 have ne : ∀ {b t : Nat} {cs : Array Value}, W.heap[b]? = some (.cells cs t (0, 0)) → t ≠ 4 → b ≠ g := fun hb ht => blk_ne_ hb h.hg ht
 refine ⟨blk_far h.hp (ne h.hp (by decide)) _, blk_far h.hs (ne h.hs (by decide)) _, blk_far h.ht (ne h.ht (by decide)) _, blk_far h.hq (ne h.hq (by decide)) _, blk_far h.hc (ne h.hc (by decide)) _, blk_far h.hk (ne h.hk (by decide)) _, ?_, by rw [List.length_set]; exact h.hl, below_set h.hb h.hgB, h.hgB⟩
 refine blk_put h.hg i _ ?_
 rw [List.map_set]
 simp
def Chkd (n : Nat) (s : List Cl) (A1 : Option Addr) (c1 : Nat) (t : List Mk) (A2 : Option Addr) (c2 : Nat) (fi : Int) (S : List Q.Sp) (A3 : Option Addr) (c3 b0 b1 b2 b3 b4 b5 g : Nat) (w0 W : World) (r : Bool × List Bool) (e : Ending) (W' : World) : Prop :=
 e = .returned (.bool r.1) ∧ CE n s A1 c1 t A2 c2 fi S A3 c3 b0 b1 b2 b3 b4 b5 g w0 W' r.2 ∧ Kept W W' (fun b => b = g)
def clQ (n : Nat) (s : List Cl) (t : List Mk) : Nat → Nat → Int → Bool := Q.clM n s.length (holdT t) (mayT s)
set_option maxHeartbeats 8000000 in
set_option maxRecDepth 100000 in
theorem chk_neg (E : CE n s A1 c1 t A2 c2 fi S A3 c3 b0 b1 b2 b3 b4 b5 g w0 W come) (hC : Kd.C k79 w0 A1 s.length s) (hc : s.length ≤ c1)
  (hT : Kd.C k82 w0 A2 t.length t) (hct : t.length ≤ c2) (hS : StoryP (n : Int) s) (hP : TermP (n : Int) t) (kn wd : Nat) (hkn : kn < 16) (hwd : wd < 16) (tgt fr : Int) (h0 : tgt < 0) (hlo : -9223372036854775808 ≤ tgt) :
  Calls Tryd.prog 36 #[.int .i64 tgt, .int .i64 fr, .int .i64 (kn : Int), .int .i64 (wd : Int), ptr b0, ptr b1, ptr b2, ptr b3, ptr b4, ptr b5] W (Chkd n s A1 c1 t A2 c2 fi S A3 c3 b0 b1 b2 b3 b4 b5 g w0 W (clQ n s t kn wd tgt, come)) := by
 have x0 := cell_of_one E.hp
 have x1 := cell_of_one E.hs
 have x2 := cell_of_one E.ht
 have e0 : decide (tgt < 0) = true := decide_eq_true h0
 have hC' := Kd.C_below hC E.hb
 have hT' := Kd.C_below hT E.hb
 have hkey := keyL_of tgt hlo (by omega)
 have T := Lib.hid (closed_calls n s A1 c1 t A2 c2 kn wd W hC' hc hT' hct hS hP hkn hwd)
 clear hC hT hS hP hC' hT'
 go_enter Tryd.func36, Tryd.ntmps36
 go_wp2_with (first | (go_at_call 37; (refine T.out.mono ?_); rintro e W1 ⟨B, k, D, rfl, hown, hB, hb1, hcl⟩; have hat := hcl.2 tgt; have E1 := Lib.hid (E.below hb1); have K1 := Lib.hid (Kept.of_below hb1 (fun b => b = g)); clear hcl hb1) | (at_lookup; refine wpList_lookup_b _ rfl _ _ _ rfl 3 4 lawC Tryd.underlying65 Tryd.underlying4 (zeroC _) B k D rfl hown _ _ rfl hkey _ hat ?_))
 go_ret
 exact ⟨rfl, E1.out, K1.out⟩
set_option maxHeartbeats 8000000 in
set_option maxRecDepth 100000 in
theorem chk_bad1 (E : CE n s A1 c1 t A2 c2 fi S A3 c3 b0 b1 b2 b3 b4 b5 g w0 W come) (hc3 : S.length ≤ c3) (kn wd : Nat) (j : Nat) (fr : Int) (hbad : (j : Int) ≤ fr ∨ (S.length : Int) ≤ (j : Int) ∨ come.getD j false = true) :
  Calls Tryd.prog 36 #[.int .i64 (j : Int), .int .i64 fr, .int .i64 (kn : Int), .int .i64 (wd : Int), ptr b0, ptr b1, ptr b2, ptr b3, ptr b4, ptr b5] W (Chkd n s A1 c1 t A2 c2 fi S A3 c3 b0 b1 b2 b3 b4 b5 g w0 W (false, come)) := by
 have x3 : W.cell? ⟨b3, 1, none⟩ = some (.slice A3 S.length c3) := (blk_cell E.hq 1).trans rfl
 have x4 := cell_of_one E.hc
 have e0 : decide ((j : Int) < 0) = false := decide_eq_false (by omega)
 by_cases h1 : (j : Int) ≤ fr
 ·have e1 : decide ((j : Int) ≤ fr) = true := decide_eq_true h1
  go_enter Tryd.func36, Tryd.ntmps36
  go_wp2
  go_ret
  exact ⟨rfl, E, Kept.refl _ _⟩
 ·have e1 : decide ((j : Int) ≤ fr) = false := decide_eq_false h1
  by_cases h2 : (S.length : Int) ≤ (j : Int)
  ·have e2 : decide ((S.length : Int) ≤ (j : Int)) = true := decide_eq_true h2
   go_enter Tryd.func36, Tryd.ntmps36
   go_wp2
   go_ret
   exact ⟨rfl, E, Kept.refl _ _⟩
  ·have e2 : decide ((S.length : Int) ≤ (j : Int)) = false := decide_eq_false h2
   have h3 : come.getD j false = true := by
    rcases hbad with h | h | h
    ·exact absurd h h1
    ·exact absurd h h2
    ·exact h
   have hj : j < come.length := by have := E.hl; omega
   have x5 : W.cell? ⟨g, j, none⟩ = some (.bool true) := by
    rw [blk_cell E.hg j]
    rw [List.getD_eq_getElem?_getD, List.getElem?_eq_getElem hj] at h3
    simp [List.getElem?_eq_getElem hj] at h3 ⊢
    exact h3
   have p1 : decide (0 ≤ (j : Int)) = true := decide_eq_true (by omega)
   have q1 : decide ((j : Int) < (S.length : Int)) = true := decide_eq_true (by omega)
   go_enter Tryd.func36, Tryd.ntmps36
   go_wp2
   go_ret
   exact ⟨rfl, E, Kept.refl _ _⟩
theorem rdS (S : List Q.Sp) (i : Nat) : rd_T68 S (i : Int) = S.getD i Q.zS := by
 unfold rd_T68
 rw [Int.toNat_natCast]
 rfl
set_option maxHeartbeats 8000000 in
set_option maxRecDepth 100000 in
theorem chk_node (E : CE n s A1 c1 t A2 c2 fi S A3 c3 b0 b1 b2 b3 b4 b5 g w0 W come) (hQ : Kd.C k68 w0 A3 S.length S) (hc3 : S.length ≤ c3) (hn : n ≤ 4) (kn wd : Nat) (hkn : kn < 16) (hwd : wd < 16) (j : Nat) (fr : Int) (hj : j < S.length) (hfr : ¬ (j : Int) ≤ fr) (hcm : come.getD j false = false)
  (cl : Nat → Nat → Int → Bool) (f : Nat) (I : ∀ (tgt : Int) (kn wd : Nat) (come : List Bool) (W : World), kn < 16 → wd < 16 → tgt = (S.getD j Q.zS).f1 ∨ tgt = (S.getD j Q.zS).f2 → CE n s A1 c1 t A2 c2 fi S A3 c3 b0 b1 b2 b3 b4 b5 g w0 W come →
   Calls Tryd.prog 36 #[.int .i64 tgt, .int .i64 (j : Int), .int .i64 (kn : Int), .int .i64 (wd : Int), ptr b0, ptr b1, ptr b2, ptr b3, ptr b4, ptr b5] W (Chkd n s A1 c1 t A2 c2 fi S A3 c3 b0 b1 b2 b3 b4 b5 g w0 W (Q.chkI S n cl f tgt j kn wd come))) :
  Calls Tryd.prog 36 #[.int .i64 (j : Int), .int .i64 fr, .int .i64 (kn : Int), .int .i64 (wd : Int), ptr b0, ptr b1, ptr b2, ptr b3, ptr b4, ptr b5] W (Chkd n s A1 c1 t A2 c2 fi S A3 c3 b0 b1 b2 b3 b4 b5 g w0 W (Q.chkI S n cl (f + 1) j fr kn wd come)) := by
 have x3 : W.cell? ⟨b3, 1, none⟩ = some (.slice A3 S.length c3) := (blk_cell E.hq 1).trans rfl
 have x4 := cell_of_one E.hc
 have e0 : decide ((j : Int) < 0) = false := decide_eq_false (by omega)
 have e1 : decide ((j : Int) ≤ fr) = false := decide_eq_false hfr
 have e2 : decide ((S.length : Int) ≤ (j : Int)) = false := decide_eq_false (by omega)
 have hjc : j < come.length := by have := E.hl; omega
 have x5 : W.cell? ⟨g, j, none⟩ = some (.bool false) := by
  rw [blk_cell E.hg j]
  rw [List.getD_eq_getElem?_getD, List.getElem?_eq_getElem hjc] at hcm
  simp [List.getElem?_eq_getElem hjc] at hcm ⊢
  exact hcm
 have p1 : decide (0 ≤ (j : Int)) = true := decide_eq_true (by omega)
 have q1 : decide ((j : Int) < (S.length : Int)) = true := decide_eq_true (by omega)
 have E1 := E.store j hj
 have fg : W.frozen? ⟨g, j, none⟩ = false := blk_frozen E.hg j
 obtain ⟨ad, eA, y0, y1, y2⟩ := at_T68 hQ (j : Int) (by omega) (by omega)
 subst eA
 rw [Int.toNat_natCast, rdS] at y0 y1 y2
 replace y0 := (E1.hb.cell (World.block_lt_of_cell? w0 _ y0)).trans y0
 replace y1 := (E1.hb.cell (World.block_lt_of_cell? w0 _ y1)).trans y1
 replace y2 := (E1.hb.cell (World.block_lt_of_cell? w0 _ y2)).trans y2
 have z3 : (W.setCell ⟨g, j, none⟩ (.bool true)).cell? ⟨b3, 1, none⟩ = some (.slice (some ad) S.length c3) := (blk_cell E1.hq 1).trans rfl
 obtain ⟨sp, hsp⟩ : ∃ x, S.getD j Q.zS = x := ⟨_, rfl⟩
 rw [hsp] at y0 y1 y2 I
 obtain ⟨f0, f1, f2⟩ := sp
 simp only at y0 y1 y2 I
 have hu93 := Tryd.underlying68
 obtain ⟨R, hR⟩ : ∃ R, Q.chkI S n cl (f + 1) j fr kn wd come = R := ⟨_, rfl⟩
 rw [hR]
 go_enter Tryd.func36, Tryd.ntmps36
 go_upto_region 7 with ((with_reducible refine gate_dst (N := 15) rfl ?_); refine box_event ?hg (N := 15) ?hd (cs := #[.int .i64 0, .int .i64 0, .int .i64 0]) (t := 68) ?hr ?_; (case hd => rfl); (case hg => rfl); (case hr => first | (go_simp; done) | (go_simp; rfl)); intro gb hgb w10 hbox hb; have hcz11_0 : w10.cell? ⟨gb, 0, none⟩ = some (.int .i64 0) := (blk_cell hbox 0).trans rfl; have hcz11_1 : w10.cell? ⟨gb, 1, none⟩ = some (.int .i64 0) := (blk_cell hbox 1).trans rfl; have hcz11_2 : w10.cell? ⟨gb, 2, none⟩ = some (.int .i64 0) := (blk_cell hbox 2).trans rfl; have hfz11_0 := blk_frozen hbox 0; have hfz11_1 := blk_frozen hbox 1; have hfz11_2 := blk_frozen hbox 2; have GB := Lib.hid hgb; have HW10 := Lib.hid hb; have BK := Lib.hid hbox; clear hgb hb hbox)
 -- BEHIND
 obtain ⟨W3, hW3⟩ : ∃ W3, (((w10.setCell { block := gb, off := 0 } (Value.int IntKind.i64 f0)).setCell { block := gb, off := 1 } (Value.int IntKind.i64 f1)).setCell { block := gb, off := 2 } (Value.int IntKind.i64 f2)) = W3 := ⟨_, rfl⟩
 rw [hW3]
 have hgb : (W.setCell ⟨g, j, none⟩ (.bool true)).heap.size ≤ gb := by rw [GB.out]; exact Nat.le_refl _
 have B3 : Below (W.setCell ⟨g, j, none⟩ (.bool true)).heap.size (W.setCell ⟨g, j, none⟩ (.bool true)) W3 := by
  rw [← hW3]
  repeat (first | exact HW10.out | refine below_set ?_ hgb)
 have BK3 : W3.heap[gb]? = some (.cells #[.int .i64 f0, .int .i64 f1, .int .i64 f2] 68 (0, 0)) := by
  rw [← hW3]
  refine blk_put (cs := #[.int .i64 f0, .int .i64 f1, .int .i64 0]) ?_ 2 _ rfl
  refine blk_put (cs := #[.int .i64 f0, .int .i64 0, .int .i64 0]) ?_ 1 _ rfl
  refine blk_put (cs := #[.int .i64 0, .int .i64 0, .int .i64 0]) ?_ 0 _ rfl
  exact BK.out
 have E3 := E1.below B3
 have K3 : Kept W W3 (fun b => b = g) := (Kept.setCell (S := fun b => b = g) (Kept.refl W _) (p := ⟨g, j, none⟩) (.inl rfl) (.bool true)).below B3
 have hW : (W.setCell ⟨g, j, none⟩ (.bool true)).heap.size = W.heap.size := by simp
 have hsz : W.heap.size ≤ gb := by rw [← hW]; exact hgb
 have hgne : gb ≠ g := by have := blk_lt E.hg; omega
 have hchk : Q.chkI S n cl (f + 1) j fr kn wd come = if f0 < 0 ∨ (n : Int) ≤ f0 ∨ kn.testBit f0.toNat = true then (false, come.set j true) else if (Q.chkI S n cl f f1 j (kn ||| 2 ^ f0.toNat) wd (come.set j true)).1 = true then
   Q.chkI S n cl f f2 j (kn ||| 2 ^ f0.toNat) (wd ||| 2 ^ f0.toNat) (Q.chkI S n cl f f1 j (kn ||| 2 ^ f0.toNat) wd (come.set j true)).2
  else (false, (Q.chkI S n cl f f1 j (kn ||| 2 ^ f0.toNat) wd (come.set j true)).2) := by
  rw [Q.chkI, if_neg (by omega), if_neg (fun h => by
   rcases h with h | h | h
   ·exact hfr h
   ·omega
   ·rw [Int.toNat_natCast, hcm] at h; cases h), Int.toNat_natCast, hsp]
 rw [hR] at hchk
 clear hR hsp hW3 hfz11_0 hfz11_1 hfz11_2 hcz11_0 hcz11_1 hcz11_2 BK HW10 GB y0 y1 y2 x3 x4 x5 fg z3 E1 hW hgb B3
 have z0 := cell_of_one E3.hp
 have y0 : W3.cell? ⟨gb, 0, none⟩ = some (.int .i64 f0) := (blk_cell BK3 0).trans rfl
 have y1 : W3.cell? ⟨gb, 1, none⟩ = some (.int .i64 f1) := (blk_cell BK3 1).trans rfl
 have y2 : W3.cell? ⟨gb, 2, none⟩ = some (.int .i64 f2) := (blk_cell BK3 2).trans rfl
 by_cases h1 : f0 < 0
 ·have d1 : decide (f0 < 0) = true := decide_eq_true h1
  rw [if_pos (.inl h1)] at hchk
  go_wp2
  go_ret
  subst hchk
  exact ⟨rfl, E3, K3⟩
 have d1 : decide (f0 < 0) = false := decide_eq_false h1
 by_cases h2 : (n : Int) ≤ f0
 ·have d2 : decide ((n : Int) ≤ f0) = true := decide_eq_true h2
  rw [if_pos (.inr (.inl h2))] at hchk
  go_wp2
  go_ret
  subst hchk
  exact ⟨rfl, E3, K3⟩
 have d2 : decide ((n : Int) ≤ f0) = false := decide_eq_false h2
 have d0 : decide (0 ≤ f0) = true := decide_eq_true (by omega)
 have d0' := eq_true (show 0 ≤ f0 by omega)
 have hf64 : f0 ≤ 64 := by omega
 obtain ⟨ji5, hji5⟩ : ∃ j_ : Int, (shr .i64 (kn : Int) f0) = j_ := ⟨_, rfl⟩
 have hji5_ : ((kn : Int) / 2 ^ min f0.toNat 64) = ji5 := hji5
 have hji5z : f0 ≤ 64 → ((kn : Int) / 2 ^ f0.toNat) = ji5 := shr_small hji5
 obtain ⟨bt, hbt⟩ : ∃ b : Bool, kn.testBit f0.toNat = b := ⟨_, rfl⟩
 have hbit : (Go.bits .and .i64 ji5 1 == 1) = bt := by
  rw [← hji5, ← hbt]
  have e : f0 = ((f0.toNat : Nat) : Int) := by omega
  rw [e, shr_and1 kn f0.toNat (by omega) (by omega), Int.toNat_natCast, Bool.eq_iff_iff, beq_iff_eq, Nat.testBit_eq_decide_div_mod_eq, decide_eq_true_iff]
  unfold bitN
  omega
 cases bt with
 | true =>
  rw [if_pos (.inr (.inr hbt))] at hchk
  go_wp2
  go_ret
  subst hchk
  exact ⟨rfl, E3, K3⟩
 | false =>
  rw [if_neg (fun h => by
   rcases h with h | h | h
   ·exact h1 h
   ·exact h2 h
   ·rw [hbt] at h; cases h)] at hchk
  obtain ⟨ji6, hji6⟩ : ∃ j_ : Int, (shl .i64 1 f0) = j_ := ⟨_, rfl⟩
  have hji6_ : (IntKind.i64.wrap (1 * 2 ^ min f0.toNat 64)) = ji6 := hji6
  have hji6z : f0 ≤ 64 → (IntKind.i64.wrap (1 * 2 ^ f0.toNat)) = ji6 := shl_small hji6
  have hji6u : (IntKind.i64.wrap (2 ^ min f0.toNat 64)) = ji6 := by have h_ := hji6_; rw [Int.one_mul] at h_; exact h_
  have hji6v : f0 ≤ 64 → (IntKind.i64.wrap (2 ^ f0.toNat)) = ji6 := fun hle_ => by have h_ := hji6z hle_; rw [Int.one_mul] at h_; exact h_
  have hji6y : (wrap64 (1 * 2 ^ min f0.toNat 64)) = ji6 := (i64_w _).symm.trans hji6_
  have hji6x : f0 ≤ 64 → (wrap64 (1 * 2 ^ f0.toNat)) = ji6 := fun h_ => (i64_w _).symm.trans (hji6z h_)
  have hpow : ji6 = ((2 ^ f0.toNat : Nat) : Int) := by
   rw [← hji6]
   have e : f0 = ((f0.toNat : Nat) : Int) := by omega
   rw [e, shl_nat f0.toNat (by omega), Int.toNat_natCast]
   rfl
  have hp16 : 2 ^ f0.toNat < 16 := Nat.lt_of_lt_of_le (Nat.pow_lt_pow_right (by decide) (show f0.toNat < 4 by omega)) (by decide)
  obtain ⟨k2, hk2⟩ : ∃ k2 : Nat, kn ||| 2 ^ f0.toNat = k2 := ⟨_, rfl⟩
  obtain ⟨w2, hw2⟩ : ∃ w2 : Nat, wd ||| 2 ^ f0.toNat = w2 := ⟨_, rfl⟩
  have hk16 : k2 < 16 := by rw [← hk2]; exact Nat.or_lt_two_pow (n := 4) hkn hp16
  have hw16 : w2 < 16 := by rw [← hw2]; exact Nat.or_lt_two_pow (n := 4) hwd hp16
  have hor : Go.bits .or .i64 (kn : Int) ji6 = (k2 : Int) := by rw [hpow, or_natQ kn _ (by omega) (by omega), hk2]
  have hor2 : Go.bits .or .i64 (wd : Int) ji6 = (w2 : Int) := by rw [hpow, or_natQ wd _ (by omega) (by omega), hw2]
  rw [hk2, hw2] at hchk
  clear hpow hk2 hw2 hp16 hji6 hji5 hbt
  have zk := cell_of_one E3.hk
  obtain ⟨⟨v1, cm1⟩, hr1⟩ : ∃ r, Q.chkI S n cl f f1 j k2 wd (come.set j true) = r := ⟨_, rfl⟩
  have HX1 := Lib.hid (I f1 k2 wd (come.set j true))
  have HX2 := Lib.hid (I f2 k2 w2 cm1)
  rw [hr1] at HX1 hchk
  have HCHK := Lib.hid hchk
  clear I hchk
  have K30 := Lib.hid K3
  have E30 := Lib.hid E3
  have BK30 := Lib.hid BK3
  clear K3 E3 BK3
  go_wp2
  refine start_ (n := 21) (S := fun w' => w'.cell? ⟨b5, 0, none⟩ = some (.func (.func 36) #[] #[ptr b0, ptr b1, ptr b2, ptr b3, ptr b4, ptr b5]) ∧ w'.cell? ⟨gb, 0, none⟩ = some (.int .i64 f0) ∧ w'.cell? ⟨gb, 1, none⟩ = some (.int .i64 f1) ∧ w'.cell? ⟨gb, 2, none⟩ = some (.int .i64 f2)) (ds := []) #[false, false, false, false, false, false, false, false, false, false, false, false, false, false, false, false, false, false, false, false, false] (by kernel_rfl) rfl rfl ⟨zk, y0, y1, y2⟩ (fun hHeld => ?_)
  have E4 := Lib.hid (E30.out.below (below_drew1 (Below.refl _ _)))
  have K4 := Lib.hid (K30.out.drew)
  have BK4 := Lib.hid (show W3.drew.heap[gb]? = some (.cells #[.int .i64 f0, .int .i64 f1, .int .i64 f2] 68 (0, 0)) from BK30.out)
  clear E30 K30 BK30 zk y0 y1 y2 z0
  generalize W3.drew = W4 at E4 K4 BK4 hHeld ⊢
  refine pur_ 1 (some 74) #[false, true, false, false, false, false, false, false, false, false, false, false, false, false, false, false, false, false, false, false, false] (by kernel_rfl) ?_
  refine pur_ 3 (some 76) #[false, true, false, true, false, false, false, false, false, false, false, false, false, false, false, false, false, false, false, false, false] (by kernel_rfl) ?_
  refine pur_ 4 (some 77) #[false, true, false, true, true, false, false, false, false, false, false, false, false, false, false, false, false, false, false, false, false] (by kernel_rfl) ?_
  refine pur_ 5 (some 78) #[false, true, false, true, true, true, false, false, false, false, false, false, false, false, false, false, false, false, false, false, false] (by kernel_rfl) ?_
  refine tak_ 0 (some 73) #[true, true, false, true, true, true, false, false, false, false, false, false, false, false, false, false, false, false, false, false, false] (by kernel_rfl) hHeld ?_
  refine tak_ 2 (some 75) #[true, true, true, true, true, true, false, false, false, false, false, false, false, false, false, false, false, false, false, false, false] (by kernel_rfl) hHeld ?_
  refine one_ (i := 6) (N := some 79) #[true, true, true, true, true, true, true, false, false, false, false, false, false, false, false, false, false, false, false, false, false] rfl rfl (by kernel_rfl) (by decide) (fun K hK => ?_)
  refine goesV_ (x := .tmp 73) Tryd.func36 (by kernel_rfl) rfl #[.int .i64 f1, .int .i64 (j : Int), .int .i64 (k2 : Int), .int .i64 (wd : Int), ptr b0, ptr b1, ptr b2, ptr b3, ptr b4, ptr b5] (by rfl) rfl rfl (by rfl) (by (try simp only [List.map_toArray, List.map_cons, List.map_nil]); first | done | rfl) ?_
  refine (HX1.out W4 hk16 hwd (.inl (by first | rfl | trivial)) E4.out).mono ?_
  rintro e W5 ⟨rfl, E5_, K5_⟩
  have E5 := Lib.hid E5_
  have K5 := Lib.hid K5_
  have BK5 := Lib.hid (blk_kept BK4.out K5_ hgne)
  clear E5_ K5_ E4 BK4 HX1
  refine ⟨_, rfl, ?_⟩
  refine hK.out _ _ ⟨cell_of_one E5.out.hk, (blk_cell BK5.out 0).trans rfl, (blk_cell BK5.out 1).trans rfl, (blk_cell BK5.out 2).trans rfl⟩ (fun hHeld => ?_)
  clear hK K
  refine nor_ (some 79) ?_
  refine pur_ 7 (some 80) #[true, true, true, true, true, true, true, true, false, false, false, false, false, false, false, false, false, false, false, false, false] (by kernel_rfl) ?_
  cases v1 with
  | false =>
   refine pure_ (i := 8) (N := some 81) (v := undef) (a' := ?_) #[true, true, true, true, true, true, true, true, true, false, false, false, false, false, false, false, false, false, false, false, false] rfl rfl (by kernel_rfl) (fun _ _ _ h => h) (Or.inr ⟨by rfl, rfl⟩) ?_ ?_
   rotate_left
   ·simp only [Act.put, z0_, z1_, z2_, i64_w, i32_w]
    rfl
   refine pure_ (i := 9) (N := some 82) (v := undef) (a' := ?_) #[true, true, true, true, true, true, true, true, true, true, false, false, false, false, false, false, false, false, false, false, false] rfl rfl (by kernel_rfl) (fun _ _ _ h => h) (Or.inr ⟨by rfl, rfl⟩) ?_ ?_
   rotate_left
   ·simp only [Act.put, z0_, z1_, z2_, i64_w, i32_w]
    rfl
   refine pure_ (i := 10) (N := some 83) (v := undef) (a' := ?_) #[true, true, true, true, true, true, true, true, true, true, true, false, false, false, false, false, false, false, false, false, false] rfl rfl (by kernel_rfl) (fun _ _ _ h => h) (Or.inr ⟨by rfl, rfl⟩) ?_ ?_
   rotate_left
   ·simp only [Act.put, z0_, z1_, z2_, i64_w, i32_w]
    rfl
   refine pure_ (i := 11) (N := some 84) (v := undef) (a' := ?_) #[true, true, true, true, true, true, true, true, true, true, true, true, false, false, false, false, false, false, false, false, false] rfl rfl (by kernel_rfl) (fun _ _ _ h => h) (Or.inr ⟨by rfl, rfl⟩) ?_ ?_
   rotate_left
   ·simp only [Act.put, z0_, z1_, z2_, i64_w, i32_w]
    rfl
   refine pure_ (i := 12) (N := some 85) (v := undef) (a' := ?_) #[true, true, true, true, true, true, true, true, true, true, true, true, true, false, false, false, false, false, false, false, false] rfl rfl (by kernel_rfl) (fun _ _ _ h => h) (Or.inr ⟨by rfl, rfl⟩) ?_ ?_
   rotate_left
   ·simp only [Act.put, z0_, z1_, z2_, i64_w, i32_w]
    rfl
   refine pure_ (i := 13) (N := some 86) (v := undef) (a' := ?_) #[true, true, true, true, true, true, true, true, true, true, true, true, true, true, false, false, false, false, false, false, false] rfl rfl (by kernel_rfl) (fun _ _ _ h => h) (Or.inr ⟨by rfl, rfl⟩) ?_ ?_
   rotate_left
   ·simp only [Act.put, z0_, z1_, z2_, i64_w, i32_w]
    rfl
   refine pure_ (i := 14) (N := some 87) (v := undef) (a' := ?_) #[true, true, true, true, true, true, true, true, true, true, true, true, true, true, true, false, false, false, false, false, false] rfl rfl (by kernel_rfl) (fun _ _ _ h => h) (Or.inr ⟨by rfl, rfl⟩) ?_ ?_
   rotate_left
   ·simp only [Act.put, z0_, z1_, z2_, i64_w, i32_w]
    rfl
   refine pure_ (i := 15) (N := some 88) (v := undef) (a' := ?_) #[true, true, true, true, true, true, true, true, true, true, true, true, true, true, true, true, false, false, false, false, false] rfl rfl (by kernel_rfl) (fun _ _ _ h => h) (Or.inr ⟨by rfl, rfl⟩) ?_ ?_
   rotate_left
   ·simp only [Act.put, z0_, z1_, z2_, i64_w, i32_w]
    rfl
   refine pure_ (i := 16) (N := some 89) (v := undef) (a' := ?_) #[true, true, true, true, true, true, true, true, true, true, true, true, true, true, true, true, true, false, false, false, false] rfl rfl (by kernel_rfl) (fun _ _ _ h => h) (Or.inr ⟨by rfl, rfl⟩) ?_ ?_
   rotate_left
   ·simp only [Act.put, z0_, z1_, z2_, i64_w, i32_w]
    rfl
   refine pure_ (i := 17) (N := some 90) (v := undef) (a' := ?_) #[true, true, true, true, true, true, true, true, true, true, true, true, true, true, true, true, true, true, false, false, false] rfl rfl (by kernel_rfl) (fun _ _ _ h => h) (Or.inr ⟨by rfl, rfl⟩) ?_ ?_
   rotate_left
   ·simp only [Act.put, z0_, z1_, z2_, i64_w, i32_w]
    rfl
   refine pure_ (i := 18) (N := some 91) (v := undef) (a' := ?_) #[true, true, true, true, true, true, true, true, true, true, true, true, true, true, true, true, true, true, true, false, false] rfl rfl (by kernel_rfl) (fun _ _ _ h => h) (Or.inr ⟨by rfl, rfl⟩) ?_ ?_
   rotate_left
   ·simp only [Act.put, z0_, z1_, z2_, i64_w, i32_w]
    rfl
   refine pur_ 19 (some 92) #[true, true, true, true, true, true, true, true, true, true, true, true, true, true, true, true, true, true, true, true, false] (by kernel_rfl) ?_
   refine pur_ 20 (some 14) #[true, true, true, true, true, true, true, true, true, true, true, true, true, true, true, true, true, true, true, true, true] (by kernel_rfl) ?_
   refine done_ (by kernel_rfl) ?_
   try go_wp2
   go_ret
   obtain rfl := HCHK.out.trans (if_neg (by first | exact Bool.false_ne_true | simp))
   exact ⟨rfl, E5.out, K4.out.then_ K5.out (fun k hk => .inl hk)⟩
  | true =>
   refine pur_ 9 (some 82) #[true, true, true, true, true, true, true, true, false, true, false, false, false, false, false, false, false, false, false, false, false] (by kernel_rfl) ?_
   refine pur_ 11 (some 84) #[true, true, true, true, true, true, true, true, false, true, false, true, false, false, false, false, false, false, false, false, false] (by kernel_rfl) ?_
   refine pur_ 12 (some 85) #[true, true, true, true, true, true, true, true, false, true, false, true, true, false, false, false, false, false, false, false, false] (by kernel_rfl) ?_
   refine pur_ 13 (some 86) #[true, true, true, true, true, true, true, true, false, true, false, true, true, true, false, false, false, false, false, false, false] (by kernel_rfl) ?_
   refine pur_ 14 (some 87) #[true, true, true, true, true, true, true, true, false, true, false, true, true, true, true, false, false, false, false, false, false] (by kernel_rfl) ?_
   refine tak_ 8 (some 81) #[true, true, true, true, true, true, true, true, true, true, false, true, true, true, true, false, false, false, false, false, false] (by kernel_rfl) hHeld ?_
   refine tak_ 10 (some 83) #[true, true, true, true, true, true, true, true, true, true, true, true, true, true, true, false, false, false, false, false, false] (by kernel_rfl) hHeld ?_
   refine tak_ 15 (some 88) #[true, true, true, true, true, true, true, true, true, true, true, true, true, true, true, true, false, false, false, false, false] (by kernel_rfl) hHeld ?_
   refine pur_ 16 (some 89) #[true, true, true, true, true, true, true, true, true, true, true, true, true, true, true, true, true, false, false, false, false] (by kernel_rfl) ?_
   refine pur_ 17 (some 90) #[true, true, true, true, true, true, true, true, true, true, true, true, true, true, true, true, true, true, false, false, false] (by kernel_rfl) ?_
   refine one_ (i := 18) (N := some 91) #[true, true, true, true, true, true, true, true, true, true, true, true, true, true, true, true, true, true, true, false, false] rfl rfl (by kernel_rfl) (by decide) (fun K hK => ?_)
   refine goesV_ (x := .tmp 81) Tryd.func36 (by kernel_rfl) rfl #[.int .i64 f2, .int .i64 (j : Int), .int .i64 (k2 : Int), .int .i64 (w2 : Int), ptr b0, ptr b1, ptr b2, ptr b3, ptr b4, ptr b5] (by rfl) rfl rfl (by rfl) (by (try simp only [List.map_toArray, List.map_cons, List.map_nil]); first | done | rfl) ?_
   refine (HX2.out W5 hk16 hw16 (.inr (by first | rfl | trivial)) E5.out).mono ?_
   rintro e W6 ⟨rfl, E6_, K6_⟩
   have E6 := Lib.hid E6_
   have K6 := Lib.hid K6_
   have BK6 := Lib.hid (blk_kept BK5.out K6_ hgne)
   clear E6_ K6_ HX2
   refine ⟨_, rfl, ?_⟩
   refine hK.out _ _ ⟨cell_of_one E6.out.hk, (blk_cell BK6.out 0).trans rfl, (blk_cell BK6.out 1).trans rfl, (blk_cell BK6.out 2).trans rfl⟩ (fun hHeld => ?_)
   clear hK K
   refine nor_ (some 91) ?_
   refine pur_ 19 (some 92) #[true, true, true, true, true, true, true, true, true, true, true, true, true, true, true, true, true, true, true, true, false] (by kernel_rfl) ?_
   refine pur_ 20 (some 14) #[true, true, true, true, true, true, true, true, true, true, true, true, true, true, true, true, true, true, true, true, true] (by kernel_rfl) ?_
   refine done_ (by kernel_rfl) ?_
   try go_wp2
   go_ret
   obtain rfl := HCHK.out.trans (if_pos (by first | rfl | trivial))
   exact ⟨rfl, E6.out, (K4.out.then_ K5.out (fun k hk => .inl hk)).then_ K6.out (fun k hk => .inl hk)⟩
theorem chk_calls (hC : Kd.C k79 w0 A1 s.length s) (hc : s.length ≤ c1) (hT : Kd.C k82 w0 A2 t.length t) (hct : t.length ≤ c2) (hQ : Kd.C k68 w0 A3 S.length S) (hc3 : S.length ≤ c3)
  (hS : StoryP (n : Int) s) (hP : TermP (n : Int) t) (hR : ∀ i, i < S.length → -9223372036854775808 ≤ (S.getD i Q.zS).f1 ∧ -9223372036854775808 ≤ (S.getD i Q.zS).f2) :
  ∀ (f : Nat) (tgt fr : Int) (kn wd : Nat) (come : List Bool) (W : World), 1 ≤ f → kn < 16 → wd < 16 → -9223372036854775808 ≤ tgt → (0 ≤ tgt → fr < tgt → (S.length : Int) < f + tgt) → CE n s A1 c1 t A2 c2 fi S A3 c3 b0 b1 b2 b3 b4 b5 g w0 W come →
  Calls Tryd.prog 36 #[.int .i64 tgt, .int .i64 fr, .int .i64 (kn : Int), .int .i64 (wd : Int), ptr b0, ptr b1, ptr b2, ptr b3, ptr b4, ptr b5] W (Chkd n s A1 c1 t A2 c2 fi S A3 c3 b0 b1 b2 b3 b4 b5 g w0 W (Q.chkI S n (clQ n s t) f tgt fr kn wd come)) := by
 have hn := hS.2.1
 intro f
 induction f with
 | zero => intro _ _ _ _ _ _ h; omega
 | succ f ih =>
  intro tgt fr kn wd come W _ hkn hwd hlo hf E
  by_cases h0 : tgt < 0
  ·rw [Q.chkI, if_pos h0]
   exact chk_neg E hC hc hT hct hS hP kn wd hkn hwd tgt fr h0 hlo
  ·obtain ⟨j, rfl⟩ : ∃ j : Nat, tgt = (j : Int) := ⟨tgt.toNat, by omega⟩
   by_cases hbad : (j : Int) ≤ fr ∨ (S.length : Int) ≤ (j : Int) ∨ come.getD j false = true
   ·rw [Q.chkI, if_neg h0, if_pos (by rw [Int.toNat_natCast]; exact hbad)]
    exact chk_bad1 E hc3 kn wd j fr hbad
   ·have hj : j < S.length := by
     have : ¬ (S.length : Int) ≤ (j : Int) := fun h => hbad (.inr (.inl h))
     omega
    have hfr : ¬ (j : Int) ≤ fr := fun h => hbad (.inl h)
    have hcm : come.getD j false = false := by
     cases h : come.getD j false with
     | false => rfl
     | true => exact absurd (.inr (.inr h)) hbad
    have hff := hf (by omega) (by omega)
    refine chk_node E hQ hc3 (by omega) kn wd hkn hwd j fr hj hfr hcm (clQ n s t) f fun tgt kn' wd' come' W' hk' hw' ht' E' => ?_
    refine ih tgt j kn' wd' come' W' (by omega) hk' hw' ?_ (fun _ h => by omega) E'
    rcases ht' with rfl | rfl
    ·exact (hR j hj).1
    ·exact (hR j hj).2
end
end Go.Proofs.YtcaogllnbpmcgaaDoor.M
namespace Go.Proofs.YtcaogllnbpmcgaaDoor.M
open Go Go.RowKit Go.Proofs.YtcaogllnbpmcgaaDoorW.PrintWords Go.Proofs.YtcaogllnbpmcgaaDoor.P
def PrfOk (n : Int) (s : List Cl) (t : List Mk) (fi : Int) (S : List Q.Sp) : Prop :=
 StoryP n s ∧ TermP n t ∧ S.length ≤ 15 ∧ (0 < S.length → fi = 0) ∧ Q.okI S n.toNat (clQ n.toNat s t) fi
def Prf64 (s : List Cl) (fi : Int) (S : List Q.Sp) : Prop :=
 s.length < 4611686018427387904 ∧ -9223372036854775808 ≤ fi ∧ ∀ i, i < S.length → -9223372036854775808 ≤ (S.getD i Q.zS).f1 ∧ -9223372036854775808 ≤ (S.getD i Q.zS).f2
theorem alloc_size_ (w : World) (o : Obj) : (w.alloc o).heap.size = w.heap.size + 1 := by simp
theorem new_at_ (w : World) (o : Obj) (k : Nat) (h : k = w.heap.size) : (w.alloc o).heap[k]? = some o := h ▸ blk_new w o
theorem impl_storyOk_l (n : Int) (s : List Cl) (hs : s.length < 4611686018427387904) : ∀ d i : Nat, i + d = s.length →
  Tells (fun k => impl_StoryOk.l0 k n s s (s.length : Int) (i : Int)) ((∀ j, i ≤ j → j < s.length → ClaimP n (s.getD j zC).f0 (s.getD j zC).f1) ∧ (1 ≤ n ∧ n ≤ 4) ∧ s.length ≤ 6) := by
 intro d
 induction d with
 | zero =>
  intro i hi
  refine Tells.step (fun k => by rw [impl_StoryOk.l0]) ?_
  refine Tells.neg (by omega) ?_
  refine Tells.bindc (peopleOkT n) ?_
  refine Tells.ite (fun h => Tells.dec ?_) (fun h => Tells.no fun h' => h (decide_eq_true h'.2.1))
  have h := of_decide_eq_true h
  exact ⟨fun h' => ⟨fun j h1 h2 => by omega, h, by omega⟩, fun h' => by omega⟩
 | succ d ih =>
  intro i hi
  refine Tells.step (fun k => by rw [impl_StoryOk.l0]) ?_
  rw [rdC, w64s (i := i) (by omega)]
  refine Tells.pos (by omega) ?_
  refine Tells.pos (by omega) ?_
  refine Tells.pos (by omega) ?_
  obtain ⟨b, hb, hi'⟩ := impl_claimOk n (s.getD i zC).f0 (s.getD i zC).f1
  refine Tells.bind hb ?_
  refine Tells.ite (fun h => ?_) (fun h => Tells.no fun h' => h (hi'.2 (h'.1 i (Nat.le_refl _) (by omega))))
  refine (ih (i + 1) (by omega)).iff ?_
  constructor
  ·intro h'
   refine ⟨fun j h1 h2 => ?_, h'.2⟩
   rcases Nat.eq_or_lt_of_le h1 with e | e
   ·exact e ▸ hi'.1 h
   ·exact h'.1 j e h2
  ·exact fun h' => ⟨fun j h1 h2 => h'.1 j (by omega) h2, h'.2⟩
theorem impl_storyOk (n : Int) (s : List Cl) (hs : s.length < 4611686018427387904) : Tells (fun k => impl_StoryOk.f k n s) (StoryP n s) := by
 unfold impl_StoryOk.f
 refine (impl_storyOk_l n s hs s.length 0 (by omega)).iff ?_
 exact ⟨fun h => ⟨fun j hj => h.1 j (by omega) hj, h.2⟩, fun h => ⟨fun j _ hj => h.1 j hj, h.2⟩⟩
theorem rdBl (l : List Bool) (i : Nat) : rdOf false l (i : Int) = l.getD i false := by simp [rdOf]
theorem dropBl (l : List Bool) (i : Nat) (h : i < l.length) : l.drop i = l.getD i false :: l.drop (i + 1) := by
 rw [List.drop_eq_getElem_cons h, List.getD_eq_getElem?_getD, List.getElem?_eq_getElem h]
 rfl
theorem index_false (l : List Bool) (hl : l.length < 1000) : ∀ d i : Nat, i + d = l.length → ∃ r : Int, Ev (fun k => slices_Index_bool_bool.l0 k l false (l.length : Int) (i : Int)) r ∧ (0 ≤ r ↔ false ∈ l.drop i) := by
 intro d
 induction d with
 | zero =>
  intro i hi
  refine ⟨-1, Ev.step (fun k => by rw [slices_Index_bool_bool.l0]) (ev_neg (by omega) (ev_ret rfl)), ?_⟩
  rw [List.drop_eq_nil_of_le (by omega)]
  simp
 | succ d ih =>
  intro i hi
  have hlt : i < l.length := by omega
  cases hb : l.getD i false with
  | false =>
   refine ⟨(i : Int), Ev.step (fun k => by rw [slices_Index_bool_bool.l0]) (ev_pos (by omega) (ev_pos (by omega) (ev_pos (by omega) ?_))), ?_⟩
   ·refine ev_pos ?_ (ev_ret rfl)
    rw [rdBl, hb]
    rfl
   ·rw [dropBl l i hlt, hb]
    simp
  | true =>
   obtain ⟨r, hr, hi2⟩ := ih (i + 1) (by omega)
   refine ⟨r, Ev.step (fun k => by rw [slices_Index_bool_bool.l0]) (ev_pos (by omega) (ev_pos (by omega) (ev_pos (by omega) ?_))), ?_⟩
   ·refine ev_neg ?_ ?_
    ·rw [rdBl, hb]
     decide
    ·rw [w64s (by omega)]
     exact hr
   ·rw [dropBl l i hlt, hb, hi2]
    simp
theorem contains_false (l : List Bool) (hl : l.length < 1000) : ∃ c : Bool, Ev (fun k => slices_Contains_bool_bool.f k l false) c ∧ (c = true ↔ false ∈ l) := by
 obtain ⟨r, hr, hi⟩ := index_false l hl l.length 0 (by omega)
 refine ⟨decide (r ≥ 0), ?_, ?_⟩
 ·unfold slices_Contains_bool_bool.f slices_Index_bool_bool.f
  exact ev_bind hr (ev_ret rfl)
 ·rw [decide_eq_true_iff, ge_iff_le, hi, List.drop_zero]
theorem made_false (n : Nat) (h : n ≤ 15) : madeCells #[.bool false] n = ((List.replicate n false).map Value.bool).toArray := by
 rcases (by omega : n = 0 ∨ n = 1 ∨ n = 2 ∨ n = 3 ∨ n = 4 ∨ n = 5 ∨ n = 6 ∨ n = 7 ∨ n = 8 ∨ n = 9 ∨ n = 10 ∨ n = 11 ∨ n = 12 ∨ n = 13 ∨ n = 14 ∨ n = 15) with rfl | rfl | rfl | rfl | rfl | rfl | rfl | rfl | rfl | rfl | rfl | rfl | rfl | rfl | rfl | rfl <;> kernel_rfl
theorem CE.row {n : Nat} {s : List Cl} {A1 : Option Addr} {c1 : Nat} {t : List Mk} {A2 : Option Addr} {c2 : Nat} {fi : Int} {S : List Q.Sp} {A3 : Option Addr} {c3 b0 b1 b2 b3 b4 b5 g : Nat} {w0 W : World} {come : List Bool}
  (h : CE n s A1 c1 t A2 c2 fi S A3 c3 b0 b1 b2 b3 b4 b5 g w0 W come) (h15 : S.length ≤ 15) : Kd.C Kd.bool W (some ⟨g, 0, none⟩) come.length come := by
 have hl := h.hl
 refine ⟨rfl, by omega, fun _ => ⟨_, rfl, fun j p hj => ⟨[.bool p], rfl, rfl, fun i u hu => ?_⟩⟩⟩
 obtain ⟨hlt, hp⟩ := List.getElem?_eq_some_iff.1 hj
 have hi : i = 0 := by
  have := (List.getElem?_eq_some_iff.1 hu).1
  simp at this
  omega
 subst hi
 simp at hu
 subst hu
 show W.cell? (Addr.add _ (j * 1 + 0)) = _
 rw [Addr.add_lit, Nat.mul_one, Nat.add_zero, Nat.zero_add, blk_cell h.hg j]
 simp [hj]
theorem CE.contains {n : Nat} {s : List Cl} {A1 : Option Addr} {c1 : Nat} {t : List Mk} {A2 : Option Addr} {c2 : Nat} {fi : Int} {S : List Q.Sp} {A3 : Option Addr} {c3 b0 b1 b2 b3 b4 b5 g : Nat} {w0 W : World} {come : List Bool}
  (h : CE n s A1 c1 t A2 c2 fi S A3 c3 b0 b1 b2 b3 b4 b5 g w0 W come) (h15 : S.length ≤ 15) : ∃ cb : Bool, (cb = true ↔ false ∈ come) ∧ Calls Tryd.prog 38 #[.slice (some ⟨g, 0, none⟩) S.length S.length, .bool false] W fun e w' => e = .returned (.bool cb) ∧ Below W.heap.size W w' := by
 have hl := h.hl
 obtain ⟨cb, ⟨K, hK⟩, hcb⟩ := contains_false come (by omega)
 refine ⟨cb, hcb, ?_⟩
 have T := slices_Contains_bool_bool.calls K (some ⟨g, 0, none⟩) come.length come false cb W (h.row h15) (Nat.le_refl _) (hK K (Nat.le_refl _))
 rw [hl] at T
 refine T.mono ?_
 rintro e w' ⟨he, hd⟩
 exact ⟨he, hd.below⟩
def prfW (n : Nat) (l : Nat) (A1 : Option Addr) (c1 m : Nat) (A2 : Option Addr) (c2 : Nat) (fi : Int) (k : Nat) (A3 : Option Addr) (c3 : Nat) (w : World) : World :=
 (((w.alloc (.cells #[.int .i64 (n : Int)] 3)).alloc (.cells #[.slice A1 l c1] 23)).alloc (.cells #[.slice A2 m c2] 24)).alloc (.cells #[.int .i64 fi, .slice A3 k c3] 27)
def prfW2 (k b0 b1 b2 b3 : Nat) (W : World) : World :=
 ((W.alloc (.cells (madeCells #[.bool false] k) 4)).alloc (.cells #[.slice (some ⟨W.heap.size, 0, none⟩) k k] 63)).alloc
  (.cells #[.func (.func 36) #[] #[ptr b0, ptr b1, ptr b2, ptr b3, ptr (W.heap.size + 1), ptr (W.heap.size + 1 + 1)]] 64)
theorem CE.start {n : Nat} {s : List Cl} {A1 : Option Addr} {c1 : Nat} {t : List Mk} {A2 : Option Addr} {c2 : Nat} {fi : Int} {S : List Q.Sp} {A3 : Option Addr} {c3 : Nat} {w0 W : World} (h15 : S.length ≤ 15)
  (hb : Below (prfW n s.length A1 c1 t.length A2 c2 fi S.length A3 c3 w0).heap.size (prfW n s.length A1 c1 t.length A2 c2 fi S.length A3 c3 w0) W) :
  CE n s A1 c1 t A2 c2 fi S A3 c3 w0.heap.size (w0.heap.size + 1) (w0.heap.size + 1 + 1) (w0.heap.size + 1 + 1 + 1) (W.heap.size + 1) (W.heap.size + 1 + 1) W.heap.size w0 (prfW2 S.length w0.heap.size (w0.heap.size + 1) (w0.heap.size + 1 + 1) (w0.heap.size + 1 + 1 + 1) W) (List.replicate S.length false) := by
 have hb0 : Below w0.heap.size w0 W := below_step (below_alloc (below_alloc (below_alloc (below_alloc (Below.refl _ _) _) _) _) _) hb
 unfold prfW at hb
 unfold prfW2
 refine ⟨?_, ?_, ?_, ?_, ?_, ?_, ?_, by simp, below_alloc (below_alloc (below_alloc hb0 _) _) _, hb0.size⟩
 ·exact blk_alloc (blk_alloc (blk_alloc (blk_below (blk_alloc (blk_alloc (blk_alloc (new_at_ _ _ _ rfl) _) _) _) hb) _) _) _
 ·exact blk_alloc (blk_alloc (blk_alloc (blk_below (blk_alloc (blk_alloc (new_at_ _ _ _ (by simp only [alloc_size_])) _) _) hb) _) _) _
 ·exact blk_alloc (blk_alloc (blk_alloc (blk_below (blk_alloc (new_at_ _ _ _ (by simp only [alloc_size_])) _) hb) _) _) _
 ·exact blk_alloc (blk_alloc (blk_alloc (blk_below (new_at_ _ _ _ (by simp only [alloc_size_])) hb) _) _) _
 ·exact blk_alloc (new_at_ _ _ _ (by simp only [alloc_size_])) _
 ·exact new_at_ _ _ _ (by simp only [alloc_size_])
 ·rw [← made_false S.length h15]
  exact blk_alloc (blk_alloc (new_at_ _ _ _ rfl) _) _
end Go.Proofs.YtcaogllnbpmcgaaDoor.M

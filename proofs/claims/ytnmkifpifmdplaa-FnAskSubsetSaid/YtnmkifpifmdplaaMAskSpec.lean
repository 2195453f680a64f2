/- The reference's AskedTable comes to the program's. -/
import Derived.Test.YtnmkifpifmdplaaMKnown
import Derived.Test.YtnmkifpifmdplaaMTab
import Derived.Test.YtnmkifpifmdplaaPx2
import Derived.Test.YtnmkifpifmdplaaPx1
import Derived.Test.YtnmkifpifmdplaaPx1
set_option linter.unusedVariables false
set_option linter.unusedSimpArgs false
namespace Go.Proofs.Ytnmkifpifmdplaa.M
open Go Go.RowKit Go.Proofs.YtnmkifpifmdplaaW.PrintWords Go.Proofs.Ytnmkifpifmdplaa.P
theorem tab_testBit (p : Nat → Bool) (n i : Nat) : (tabN p n).testBit i = (decide (i < n) && p i) := by
  induction n with
  | zero => simp [tabN]
  | succ n ih =>
    simp only [tabN]
    by_cases h : p n = true
    · rw [if_pos h]
      have hl := tabN_lt p n
      unfold pw at *
      rw [Nat.add_comm]
      rcases Nat.lt_trichotomy i n with hi | hi | hi
      · rw [Nat.testBit_two_pow_add_gt hi, ih]
        rw [decide_eq_true hi, decide_eq_true (show i < n + 1 by omega)]
      · subst hi
        rw [Nat.testBit_two_pow_add_eq, ih]
        simp [h]
      · rw [Nat.testBit_lt_two_pow (by
          have : 2 ^ (n + 1) ≤ 2 ^ i := Nat.pow_le_pow_right (by decide) hi
          omega)]
        rw [decide_eq_false (show ¬ i < n + 1 by omega)]
        rfl
    · rw [if_neg h, Nat.add_zero, ih]
      by_cases hi : i = n
      · subst hi
        simp [h]
      · congr 1
        rw [decide_eq_decide]
        omega
theorem and_tab (p : Nat → Bool) (T N : Nat) (hT : T < pw N) : T &&& tabN p N = tabN (fun w => bitN T w == 1 && p w) N := by
  refine Nat.eq_of_testBit_eq fun i => ?_
  rw [Nat.testBit_and, tab_testBit, tab_testBit, Nat.testBit_eq_decide_div_mod_eq]
  have e : (bitN T i == 1) = decide (T / 2 ^ i % 2 = 1) := by
    unfold bitN
    rw [Bool.eq_iff_iff]
    simp
  rw [e]
  cases decide (i < N) <;> cases decide (T / 2 ^ i % 2 = 1) <;> simp
theorem beq_cast (a b : Nat) : ((a : Int) == (b : Int)) = (a == b) := by
  rw [Bool.eq_iff_iff, beq_iff_eq, beq_iff_eq]
  omega
def askP (T who whom : Nat) (yes : Bool) (w : Nat) : Bool := bitN T w == 1 && impl_AskedTable.same who whom yes w
theorem tabS (p : Nat → Bool) (j : Nat) (hj : j ≤ 16) (h : p j = true) : Go.bits .or .i64 (tabN p j : Int) (pw j : Int) = ((tabN p (j + 1) : Nat) : Int) := by
  rw [or_pw p j hj]
  simp [tabN, h]
theorem tabZ (p : Nat → Bool) (j : Nat) (h : p j = false) : tabN p j = tabN p (j + 1) := by simp [tabN, h]
theorem asked_l (T n who whom : Nat) (yes : Bool) (hn : n ≤ 4) (hT : T < 65536) (h0 : who < 4) (h1 : whom < 4) : ∀ d j, j + d = pw n →
    Ev (fun k => spec_l13Asked.l0 k (n : Int) (T : Int) (who : Int) (whom : Int) yes ((tabN (askP T who whom yes) j : Nat) : Int) (j : Int)) ((tabN (askP T who whom yes) (pw n) : Nat) : Int) := by
  have hp := pw4 hn
  intro d
  induction d with
  | zero =>
    intro j hj
    refine Ev.step (fun k => by rw [spec_l13Asked.l0]) ?_
    rw [shl_nat n (by omega)]
    refine ev_pos (by omega) ?_
    refine ev_neg (by omega) (ev_ret ?_)
    rw [show j = pw n by omega]
  | succ d ih =>
    intro j hj
    refine Ev.step (fun k => by rw [spec_l13Asked.l0]) ?_
    rw [shl_nat n (by omega), shr_tmod2 T j (by omega), w64s (by omega), shr_tmod2 j who (by omega), shr_tmod2 j whom (by omega), shl_nat j (by omega), beq_cast]
    refine ev_pos (by omega) ?_
    refine ev_pos (by omega) ?_
    refine ev_pos (by omega) ?_
    by_cases hb : bitN T j = 1
    · refine ev_pos (by omega) ?_
      refine ev_pos (by omega) ?_
      refine ev_pos (by omega) ?_
      by_cases hs : ((bitN j who == bitN j whom) == yes) = true
      · refine ev_pos hs ?_
        rw [tabS (askP T who whom yes) j (by omega) (by simp only [askP, impl_AskedTable.same, hb, hs]; rfl)]
        exact ih (j + 1) (by omega)
      · refine ev_neg hs ?_
        rw [tabZ (askP T who whom yes) j (by simp only [askP, impl_AskedTable.same, hb, Bool.eq_false_iff.2 hs]; rfl)]
        exact ih (j + 1) (by omega)
    · refine ev_neg (by omega) ?_
      rw [tabZ (askP T who whom yes) j (by simp [askP, hb])]
      exact ih (j + 1) (by omega)
/-- AskedTable, as both tell it. -/
def askF (n t who whom : Int) (yes : Bool) : Int := if impl_AskedTable.Ok n t who whom then ((tabN (askP t.toNat who.toNat whom.toNat yes) (pw n.toNat) : Nat) : Int) else -1
theorem impl_askF (n t who whom : Int) (yes : Bool) : impl_AskedTable.f n t who whom yes = some (askF n t who whom yes) := by
  unfold impl_AskedTable.f askF
  by_cases h : impl_AskedTable.Ok n t who whom
  · rw [if_pos h, if_pos h, and_tab]
    · rfl
    · have := h.1.2.2.2
      have := h.1.2.2.1
      omega
  · rw [if_neg h, if_neg h]
theorem spec_askedE (n t : Int) (who whom : Int) (yes : Bool) (h : impl_AskedTable.Ok n t who whom) : Ev (fun k => spec_l13Asked.f k n t who whom yes) (askF n t who whom yes) := by
  unfold askF
  rw [if_pos h]
  obtain ⟨⟨h1, h4, h0, ht⟩, b0, b1, b2, b3⟩ := h
  obtain ⟨n, rfl⟩ : ∃ m : Nat, n = (m : Int) := ⟨n.toNat, by omega⟩
  obtain ⟨t, rfl⟩ : ∃ m : Nat, t = (m : Int) := ⟨t.toNat, by omega⟩
  obtain ⟨who, rfl⟩ : ∃ m : Nat, who = (m : Int) := ⟨who.toNat, by omega⟩
  obtain ⟨whom, rfl⟩ : ∃ m : Nat, whom = (m : Int) := ⟨whom.toNat, by omega⟩
  simp only [Int.toNat_natCast] at *
  have := ppw (n := n) (by omega)
  unfold spec_l13Asked.f
  exact asked_l t n who whom yes (by omega) (by omega) (by omega) (by omega) (pw n) 0 (by omega)
theorem spec_askF (n t who whom : Int) (yes : Bool) : Ev (fun k => spec_AskedTable.f k n t who whom yes) (askF n t who whom yes) := by
  unfold spec_AskedTable.f
  refine ev_bindc (spec_tabOk n t) ?_
  by_cases h : TabOk n t
  · refine ev_pos (decide_eq_true h) ?_
    obtain ⟨h1, h4, h0, ht⟩ := id h
    rw [w64 (x := n - 1) (by omega) (by omega)]
    refine ev_bindc (l1In who 0 (n - 1)) ?_
    by_cases hw : 0 ≤ who ∧ who ≤ n - 1
    · refine ev_pos (decide_eq_true hw) ?_
      refine ev_bindc (l1In whom 0 (n - 1)) ?_
      by_cases hv : 0 ≤ whom ∧ whom ≤ n - 1
      · refine ev_pos (decide_eq_true hv) ?_
        exact ev_bind (spec_askedE n t who whom yes ⟨h, hw.1, by omega, hv.1, by omega⟩) (ev_ret rfl)
      · refine ev_neg (fun h' => hv (of_decide_eq_true h')) (ev_ret ?_)
        unfold askF
        rw [if_neg (fun h' => hv ⟨h'.2.2.2.1, by have := h'.2.2.2.2; omega⟩)]
    · refine ev_neg (fun h' => hw (of_decide_eq_true h')) (ev_ret ?_)
      unfold askF
      rw [if_neg (fun h' => hw ⟨h'.2.1, by have := h'.2.2.1; omega⟩)]
  · refine ev_neg (fun h' => h (of_decide_eq_true h')) (ev_ret ?_)
    unfold askF
    rw [if_neg (fun h' => h h'.1)]
end Go.Proofs.Ytnmkifpifmdplaa.M

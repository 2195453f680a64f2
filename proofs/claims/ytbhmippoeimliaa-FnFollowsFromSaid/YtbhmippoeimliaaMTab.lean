/- Tables: the worlds for which something holds, as a number; the program's tableBy makes it, whatever function value it is handed. -/
import Derived.Test.YtbhmippoeimliaaMBase
import Derived.Test.YtbhmippoeimliaaPx0
set_option linter.unusedVariables false
set_option linter.unusedSimpArgs false
namespace Go.Proofs.Ytbhmippoeimliaa.M
open Go Go.RowKit Go.Proofs.YtbhmippoeimliaaW.PrintWords Go.Proofs.Ytbhmippoeimliaa.P

/-- The table of all worlds below n for which p holds. -/
def tabN (p : Nat → Bool) : Nat → Nat
  | 0 => 0
  | n + 1 => tabN p n + if p n then pw n else 0
theorem tabN_lt (p : Nat → Bool) (n : Nat) : tabN p n < pw n := by
  induction n with
  | zero => exact pw_pos 0
  | succ n ih =>
    have : pw (n + 1) = pw n + pw n := by unfold pw; omega
    simp only [tabN]
    split <;> omega
theorem or_pw (p : Nat → Bool) (j : Nat) (hj : j ≤ 16) : Go.bits .or .i64 (tabN p j : Int) (pw j : Int) = ((tabN p j + pw j : Nat) : Int) := by
  have h1 := tabN_lt p j
  have h2 := pw16 hj
  have h := (bits_nat .i64 63 (by decide) wraps_i64 (tabN p j) (pw j) (by omega) (by omega)).2
  rw [h]
  have e := Nat.two_pow_add_eq_or_of_lt (i := j) h1 1
  rw [Nat.mul_one] at e
  rw [Nat.or_comm]
  show ((2 ^ j ||| tabN p j : Nat) : Int) = _
  rw [← e, Nat.add_comm]
  rfl
theorem tab_yes (p : Nat → Bool) (j : Nat) (hj : j ≤ 16) (h : p j = true) : Value.int .i64 (Go.bits .or .i64 (tabN p j : Int) (pw j : Int)) = .int .i64 (tabN p (j + 1) : Nat) := by
  rw [or_pw p j hj]
  simp [tabN, h]
theorem tab_no (p : Nat → Bool) (j : Nat) (h : p j = false) : Value.int .i64 (tabN p j : Nat) = .int .i64 (tabN p (j + 1) : Nat) := by
  simp [tabN, h]
end Go.Proofs.Ytbhmippoeimliaa.M

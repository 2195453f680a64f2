/- What a memo of least numbers holds, and how many entries come in. -/
import Derived.Test.YtnmkifpifmdplaaMLeastN
import Derived.Maps.OwnSet
import Derived.Maps.Views
set_option linter.unusedVariables false
set_option linter.unusedSimpArgs false
namespace Go.Proofs.Ytnmkifpifmdplaa.M
open Go Go.RowKit Go.Proofs.YtnmkifpifmdplaaW.PrintWords Go.Proofs.Ytnmkifpifmdplaa.P Go.Maps
abbrev MemoD := DataW Unit
def keyL (T : Nat) : Lit := .int .i64 (T : Int)
def zeroL : MemoD := .lit (.int .i64 0)
/-- Each entry is the least number of its table. -/
def MemoOk (n : Nat) (D : MemoD) : Prop := IsMap D ∧ ∀ T : Nat, T < pw (pw n) → Maps.has D (keyL T) = true → D.atKey (keyL T) zeroL = .lit (.int .i64 (leastN n T))
theorem memo_empty (n : Nat) : MemoOk n (.map []) := ⟨isMap_empty, fun T _ h => by
  rw [has_eq] at h
  simp at h⟩
theorem keyL_ne {T T' : Nat} (h : T' ≠ T) : keyL T' ≠ keyL T := fun e => h (by
  unfold keyL at e
  injection e with _ e
  omega)
theorem memo_put {n T : Nat} {D : MemoD} (h : MemoOk n D) : MemoOk n (D.put (keyL T) (.lit (.int .i64 (leastN n T)))) := by
  refine ⟨h.1.put _ _, fun T' hT' hh => ?_⟩
  by_cases e : T' = T
  · subst e
    exact atKey_put_same h.1 (show WideAt.IsKeyLit (Lit.int .i64 _) from trivial) _ _
  · rw [has_put_other (keyL_ne e)] at hh
    rw [atKey_put_other (keyL_ne e)]
    exact h.2 T' hT' hh
theorem memo_at {n T : Nat} {D : MemoD} {c : Int} (h : MemoOk n D) (hT : T < pw (pw n)) (hh : Maps.has D (keyL T) = true) (hc : D.atKey (keyL T) zeroL = .lit (.int .i64 c)) : c = leastN n T := by
  have := h.2 T hT hh
  rw [hc] at this
  injection this with this
  injection this
/-! ### how many worlds there are -/
def popW (n T : Nat) : Nat := (wl T n).length
theorem popW_pos {n T : Nat} (hT : T < pw (pw n)) (h : T ≠ 0) : 1 ≤ popW n T := List.length_pos_iff.2 fun e => h ((wl_nil hT).1 e)
theorem popW_le (n T : Nat) : popW n T ≤ pw n := wl_len T n
theorem filter_both {α : Type} (p q : α → Bool) : ∀ l : List α, (l.filter fun x => p x && (q x == true)).length + (l.filter fun x => p x && (q x == false)).length = (l.filter p).length := by
  intro l
  induction l with
  | nil => rfl
  | cons x l ih =>
    simp only [List.filter_cons]
    cases hp : p x <;> cases hq : q x <;> simp [hp, hq] at ih ⊢ <;> omega
theorem popW_part (n T i j : Nat) : popW n (partT n T i j true) + popW n (partT n T i j false) = popW n T := by
  have key : ∀ yes, popW n (partT n T i j yes) = ((List.range' 0 (pw n)).filter fun w => (bitN T w == 1) && ((bitN w i == bitN w j) == yes)).length := fun yes => by
    unfold popW wl
    rw [List.filter_congr fun w hw => ?_]
    have hw := List.mem_range'_1.1 hw
    rw [Bool.eq_iff_iff, beq_iff_eq, partT_bit, Bool.and_eq_true, beq_iff_eq]
    constructor
    · exact fun h => ⟨by rw [beq_iff_eq]; exact h.2.1, h.2.2⟩
    · exact fun h => ⟨by omega, by have := h.1; rwa [beq_iff_eq] at this, h.2⟩
  rw [key, key]
  exact filter_both _ _ _
/-! ### how many entries come in -/
def tri : Nat → Nat
  | 0 => 0
  | n + 1 => tri n + n
theorem tri_4 {n : Nat} (h : n ≤ 4) : tri n ≤ 6 := by
  rcases (by omega : n = 0 ∨ n = 1 ∨ n = 2 ∨ n = 3 ∨ n = 4) with rfl | rfl | rfl | rfl | rfl <;> decide
def cst (c m : Nat) : Nat := m * (2 * c)
theorem cst_succ (c m : Nat) : cst c (m + 1) = cst c m + 2 * c := Nat.succ_mul m (2 * c)
theorem cst_mono (c : Nat) {m m' : Nat} (h : m ≤ m') : cst c m ≤ cst c m' := Nat.mul_le_mul_right _ h
theorem cst_6 (c : Nat) : cst c 6 = 12 * c := by unfold cst; omega
def capN : Nat → Nat
  | 0 => 1
  | p + 1 => 13 * capN p
theorem capN_pos (p : Nat) : 1 ≤ capN p := by
  induction p with
  | zero => exact Nat.le_refl _
  | succ p ih => simp only [capN]; omega
theorem capN_16 : capN 16 = 665416609183179841 := by decide +kernel
theorem capN_mono {p q : Nat} (h : p ≤ q) : capN p ≤ capN q := by
  induction q with
  | zero =>
    obtain rfl : p = 0 := by omega
    exact Nat.le_refl _
  | succ q ih =>
    rcases Nat.eq_or_lt_of_le h with e | e
    · exact e ▸ Nat.le_refl _
    · have := ih (by omega)
      simp only [capN]
      omega
/-- The pairs that the program's loops have taken. -/
def IP (n who whom i j : Nat) : Prop := j < i ∧ i < n ∧ (i < who ∨ (i = who ∧ j < whom))
/-- The best of the pairs so far, in the program's order. -/
def Best (n T who whom : Nat) (b : Int) : Prop := IsB (fun _ => True) ((n : Int) - 1) n T (IP n who whom) b
theorem best_none {n T : Nat} (hn : 1 ≤ n) : Best n T 0 0 (-1) := isB_none _ _ (by omega) _ _ _ fun i j h => by unfold IP at h; omega
theorem best_next {n T who : Nat} {b : Int} (h : Best n T who who b) : Best n T (who + 1) 0 b := isB_congr (fun i j => by unfold IP; omega) h
theorem best_skip {n T who whom : Nat} {b : Int} (hw : whom < who) (hn : who < n) (h : Best n T who whom b) (h0 : partT n T who whom true = 0 ∨ partT n T who whom false = 0) : Best n T who (whom + 1) b :=
  isB_skip h h0 fun x y => by unfold IP; omega
theorem best_step {n T who whom : Nat} {b : Int} (hw : whom < who) (hn : who < n) (h : Best n T who whom b) (h1 : partT n T who whom true ≠ 0) (h2 : partT n T who whom false ≠ 0) :
    Best n T who (whom + 1) (better (leastN n (partT n T who whom true)) (leastN n (partT n T who whom false)) b) :=
  isB_step h h1 h2 (leastN_is (by omega) (partT_lt _ _ _ _ _)) (leastN_is (by omega) (partT_lt _ _ _ _ _)) fun x y => by unfold IP; omega
theorem best_end {n T : Nat} {b : Int} (hn : 1 ≤ n) (hT : T < pw (pw n)) (h0 : ¬ Settled n T) (h : Best n T n 0 b) : b = leastN n T :=
  (leastN_eq (isLeast_pairs hn hT h0 (fun i j hi hj hne => by unfold IP; omega) (fun i j h => by unfold IP at h; omega) h)).symm
theorem best_bd {n T who whom : Nat} {b : Int} (h : Best n T who whom b) : -1 ≤ b ∧ b ≤ n := by
  have := h.1
  have := h.2.1
  omega
theorem leastN_bd {n T : Nat} (hn : 1 ≤ n) (hT : T < pw (pw n)) : -1 ≤ leastN n T ∧ leastN n T ≤ (n : Int) - 1 := ⟨(leastN_is hn hT).1, (leastN_is hn hT).2.1⟩
theorem least_settled {n T : Nat} (hn : 1 ≤ n) (h : Settled n T) : leastN n T = 0 := leastN_eq (isL_settled (by omega) h)
/-- The program's 'and not', and what is left of a table. -/
theorem bits_andNot_nat (a b : Nat) (ha : a < 2 ^ 62) (hb : b < 2 ^ 62) : Go.bits .andNot .i64 (a : Int) (b : Int) = ((a &&& (2 ^ 64 - (b + 1)) : Nat) : Int) := by
  have ea : a % 2 ^ IntKind.i64.bits = a := Nat.mod_eq_of_lt (Nat.lt_of_lt_of_le ha (by decide))
  have eb : b % 2 ^ IntKind.i64.bits = b := Nat.mod_eq_of_lt (Nat.lt_of_lt_of_le hb (by decide))
  simp only [Go.bits, BitVec.ofInt_natCast, BitVec.toNat_and, BitVec.toNat_not, BitVec.toNat_ofNat, ea, eb]
  have h : (a &&& (2 ^ IntKind.i64.bits - 1 - b)) ≤ a := Nat.and_le_left
  have e : 2 ^ IntKind.i64.bits - 1 - b = 2 ^ 64 - (b + 1) := by
    rw [bits_i64]
    omega
  rw [e] at h ⊢
  generalize (a &&& (2 ^ 64 - (b + 1))) = q at h ⊢
  exact wraps_i64 _ (by omega) (by omega)
theorem andNot_part {n T i j : Nat} (hn : n ≤ 4) (hT : T < pw (pw n)) : Go.bits .andNot .i64 (T : Int) ((partT n T i j true : Nat) : Int) = ((partT n T i j false : Nat) : Int) := by
  have := ppw hn
  have h1 := partT_lt n T i j true
  have h16 := pw4 hn
  rw [bits_andNot_nat T (partT n T i j true) (by omega) (by omega)]
  congr 1
  refine Nat.eq_of_testBit_eq fun w => ?_
  rw [Nat.testBit_and, Nat.testBit_two_pow_sub_succ (by omega), Bool.eq_iff_iff, ← bitN_test, partT_bit, Bool.and_eq_true, Bool.and_eq_true, ← bitN_test, decide_eq_true_eq, Bool.not_eq_true', Bool.eq_false_iff]
  show bitN T w = 1 ∧ w < 64 ∧ ¬ (partT n T i j true).testBit w = true ↔ _
  rw [← bitN_test, partT_bit]
  constructor
  · rintro ⟨a, b, c⟩
    have hw := bit_lt hT a
    refine ⟨hw, a, ?_⟩
    cases hb : (bitN w i == bitN w j)
    · rfl
    · exact absurd ⟨hw, a, by rw [hb]; rfl⟩ c
  · rintro ⟨a, b, c⟩
    refine ⟨b, by omega, fun h => ?_⟩
    have d := h.2.2
    cases hb : (bitN w i == bitN w j) <;> rw [hb] at c d <;> simp at c d
end Go.Proofs.Ytnmkifpifmdplaa.M

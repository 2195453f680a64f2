/- Plain lemmas for the pure sides: what a call tells from some number of rounds on, numbers that don't wrap, bits of small numbers. -/
import Derived.Test.YtcaogllnbpmcgaaDoorWAll
import Derived.Laws.BitsLemmas
set_option linter.unusedVariables false
set_option linter.unusedSimpArgs false
namespace Go.Proofs.YtcaogllnbpmcgaaDoor.M
open Go Go.RowKit Go.Proofs.YtcaogllnbpmcgaaDoorW.PrintWords

section
variable {α β : Type}
theorem ev_pos {c : Prop} [Decidable c] {g h : Nat → Option α} {r : α} (hc : c) (k : Ev g r) : Ev (fun n => if c then g n else h n) r := by
  simpa only [if_pos hc] using k
theorem ev_neg {c : Prop} [Decidable c] {g h : Nat → Option α} {r : α} (hc : ¬ c) (k : Ev h r) : Ev (fun n => if c then g n else h n) r := by
  simpa only [if_neg hc] using k
theorem ev_ret {r s : α} (h : r = s) : Ev (fun _ => some r) s := h ▸ Ev.now r
theorem ev_const {o : Option α} {r : α} (h : o = some r) : Ev (fun _ => o) r := ⟨0, fun _ _ => h⟩
theorem ev_bind {g : Nat → Option α} {f : Nat → α → Option β} {a : α} {r : β} (h : Ev g a) (k : Ev (fun n => f n a) r) : Ev (fun n => (g n).bind (f n)) r := Ev.bind h k
theorem ev_bindc {o : Option α} {f : Nat → α → Option β} {a : α} {r : β} (h : o = some a) (k : Ev (fun n => f n a) r) : Ev (fun n => o.bind (f n)) r := Ev.bind (ev_const h) k
end

/-- From some number of rounds on it tells whether P. -/
def Tells (g : Nat → Option Bool) (P : Prop) : Prop := ∃ b, Ev g b ∧ (b = true ↔ P)
section
variable {g h : Nat → Option Bool} {P Q : Prop}
theorem Tells.pos {c : Prop} [Decidable c] (hc : c) (k : Tells g P) : Tells (fun n => if c then g n else h n) P := by
  simpa only [if_pos hc] using k
theorem Tells.neg {c : Prop} [Decidable c] (hc : ¬ c) (k : Tells h P) : Tells (fun n => if c then g n else h n) P := by
  simpa only [if_neg hc] using k
theorem Tells.ite {c : Prop} [Decidable c] (hp : c → Tells g P) (hn : ¬ c → Tells h P) : Tells (fun n => if c then g n else h n) P := by
  by_cases hc : c
  · exact Tells.pos hc (hp hc)
  · exact Tells.neg hc (hn hc)
theorem Tells.step {f : Nat → Option Bool} (e : ∀ k, g (k + 1) = f k) (k : Tells f P) : Tells g P := by
  obtain ⟨b, hb, hi⟩ := k
  exact ⟨b, Ev.step e hb, hi⟩
theorem Tells.bind {α : Type} {g : Nat → Option α} {f : Nat → α → Option Bool} {a : α} (h : Ev g a) (k : Tells (fun n => f n a) P) : Tells (fun n => (g n).bind (f n)) P := by
  obtain ⟨b, hb, hi⟩ := k
  exact ⟨b, Ev.bind h hb, hi⟩
theorem Tells.bindc {α : Type} {o : Option α} {f : Nat → α → Option Bool} {a : α} (h : o = some a) (k : Tells (fun n => f n a) P) : Tells (fun n => o.bind (f n)) P := Tells.bind (ev_const h) k
theorem Tells.yes (h : P) : Tells (fun _ => some true) P := ⟨true, Ev.now _, by simp [h]⟩
theorem Tells.no (h : ¬ P) : Tells (fun _ => some false) P := ⟨false, Ev.now _, by simp [h]⟩
theorem Tells.dec [Decidable Q] (h : Q ↔ P) : Tells (fun _ => some (decide Q)) P := ⟨decide Q, Ev.now _, by simpa using h⟩
theorem Tells.iff (k : Tells g P) (h : P ↔ Q) : Tells g Q := by
  obtain ⟨b, hb, hi⟩ := k
  exact ⟨b, hb, hi.trans h⟩
theorem Tells.ev (k : Tells g P) {b : Bool} (h : b = true ↔ P) : Ev g b := by
  obtain ⟨c, hc, hi⟩ := k
  have : c = b := by
    rw [Bool.eq_iff_iff]
    exact hi.trans h.symm
  exact this ▸ hc
theorem Tells.of {b : Bool} (h : Ev g b) (hp : b = true ↔ P) : Tells g P := ⟨b, h, hp⟩
end

/-! ### numbers -/
theorem w64 {x : Int} (h0 : -9223372036854775808 ≤ x) (h1 : x ≤ 9223372036854775807) : wrap64 x = x := by
  unfold wrap64
  omega
theorem w64s {i : Nat} (h : i < 9223372036854775807) : wrap64 ((i : Int) + 1) = ((i + 1 : Nat) : Int) := by
  unfold wrap64
  omega
theorem rdN (xs : List Int) (i : Nat) : rd xs (i : Int) = xs.getD i 0 := by simp [rd]
theorem wraps_i64 (n : Int) (h₀ : 0 ≤ n) (h₁ : n < 2 ^ 63) : IntKind.i64.wrap n = n := by rw [IntKind.wrap_i64]; omega
theorem bits_i64 : IntKind.i64.bits = 64 := rfl
theorem shr_nat (m i : Nat) (hi : i ≤ 64) : shr .i64 (m : Int) (i : Int) = ((m / 2 ^ i : Nat) : Int) := by
  unfold shr
  rw [Int.toNat_natCast, bits_i64, Nat.min_eq_left hi]
  norm_cast
/-- 2 to the power of n, under a name of its own. -/
def pw (n : Nat) : Nat := 2 ^ n
theorem pw_pos (n : Nat) : 0 < pw n := Nat.two_pow_pos n
theorem pw16 {n : Nat} (h : n ≤ 16) : pw n ≤ 65536 := Nat.pow_le_pow_right (n := 2) (by decide) h
theorem shl_nat (n : Nat) (hn : n ≤ 62) : shl .i64 1 (n : Int) = ((pw n : Nat) : Int) := by
  unfold shl pw
  rw [Int.toNat_natCast, bits_i64, Nat.min_eq_left (by omega), Int.one_mul]
  have h : (2 ^ n : Nat) ≤ 2 ^ 62 := Nat.pow_le_pow_right (by decide) hn
  have e : ((2 : Int) ^ n) = ((2 ^ n : Nat) : Int) := by norm_cast
  rw [e]
  generalize (2 ^ n : Nat) = q at h ⊢
  exact wraps_i64 _ (by omega) (by omega)
theorem and1 (m : Nat) (hm : m < 9223372036854775808) : Go.bits .and .i64 (m : Int) 1 = ((m % 2 : Nat) : Int) := by
  have h := bits_mask .i64 63 (by decide) wraps_i64 1 (by decide) (m : Int) (by omega) (by omega)
  simpa using h
/-- The bit i of m. -/
def bitN (m i : Nat) : Nat := m / 2 ^ i % 2
theorem shr_and1 (m i : Nat) (hi : i ≤ 64) (hm : m < 9223372036854775808) : Go.bits .and .i64 (shr .i64 (m : Int) (i : Int)) 1 = ((bitN m i : Nat) : Int) := by
  rw [shr_nat m i hi]
  exact and1 _ (Nat.lt_of_le_of_lt (Nat.div_le_self _ _) hm)
theorem shr_tmod2 (m i : Nat) (hi : i ≤ 64) : Int.tmod (shr .i64 (m : Int) (i : Int)) 2 = ((bitN m i : Nat) : Int) := by
  rw [shr_nat m i hi]
  rfl
end Go.Proofs.YtcaogllnbpmcgaaDoor.M

/- What the proof of this law needs besides: texts of ours, one behind the other. -/
import Derived.Test.YtbhmippoeimliaaWWords
import Derived.Test.YtbhmippoeimliaaWMore
import Derived.Laws.BitsLemmas
import Derived.Test.YtbhmippoeimliaaPx2
import Derived.Test.YtbhmippoeimliaaPx5
import Derived.Test.YtbhmippoeimliaaPx7
import Derived.Test.YtbhmippoeimliaaPx6
import Derived.Test.YtbhmippoeimliaaPx0
import Derived.Test.YtbhmippoeimliaaPx8
import Derived.Test.YtbhmippoeimliaaPx9
import Derived.Test.YtbhmippoeimliaaPx10
import Derived.Test.YtbhmippoeimliaaPx3
import Derived.Test.YtbhmippoeimliaaPx4
import Derived.Test.YtbhmippoeimliaaPx11
/- Plain lemmas for the pure sides: what a call tells from some number of rounds on, numbers that don't wrap, bits of small numbers. -/
set_option linter.unusedVariables false
set_option linter.unusedSimpArgs false
namespace Go.Proofs.Ytbhmippoeimliaa.M
open Go Go.RowKit Go.Proofs.YtbhmippoeimliaaW.PrintWords

section
variable {α β : Type}
theorem ev_pos {c : Prop} [Decidable c] {g h : Nat → Option α} {r : α} (hc : c) (k : Ev g r) : Ev (fun n => if c then g n else h n) r := by
  simpa only [if_pos hc] using k
theorem ev_neg {c : Prop} [Decidable c] {g h : Nat → Option α} {r : α} (hc : ¬ c) (k : Ev h r) : Ev (fun n => if c then g n else h n) r := by
  simpa only [if_neg hc] using k
theorem ev_ret {r s : α} (h : r = s) : Ev (fun _ => some r) s := h ▸ Ev.now r
theorem ev_const {o : Option α} {r : α} (h : o = some r) : Ev (fun _ => o) r := ⟨0, fun _ _ => h⟩
theorem ev_bind {g : Nat → Option α} {f : Nat → α → Option β} {a : α} {r : β} (h : Ev g a) (k : Ev (fun n => f n a) r) : Ev (fun n => (g n).bind (f n)) r := Ev.bind h k
theorem ev_bindc {o : Option α} {f : Nat → α → Option β} {a : α} {r : β} (h : o = some a) (k : Ev (fun n => f n a) r) : Ev (fun n => o.bind (f n)) r := Ev.bind (ev_const h) k
theorem ev_eq {g : Nat → Option α} {r s : α} (h : Ev g r) (e : r = s) : Ev g s := e ▸ h
theorem ev_uniq {g : Nat → Option α} {r s : α} (h : Ev g r) (h' : Ev g s) : r = s := by
  obtain ⟨K, h⟩ := h
  obtain ⟨K', h'⟩ := h'
  have a := h (max K K') (by omega)
  have b := h' (max K K') (by omega)
  rw [a] at b
  exact Option.some.inj b
end

/-- From some number of rounds on it tells whether P. -/
def Tells (g : Nat → Option Bool) (P : Prop) : Prop := ∃ b, Ev g b ∧ (b = true ↔ P)
section
variable {g h : Nat → Option Bool} {P Q : Prop}
theorem Tells.pos {c : Prop} [Decidable c] (hc : c) (k : Tells g P) : Tells (fun n => if c then g n else h n) P := by
  simpa only [if_pos hc] using k
theorem Tells.neg {c : Prop} [Decidable c] (hc : ¬ c) (k : Tells h P) : Tells (fun n => if c then g n else h n) P := by
  simpa only [if_neg hc] using k
theorem Tells.ite {c : Prop} [Decidable c] (hp : c → Tells g P) (hn : ¬ c → Tells h P) : Tells (fun n => if c then g n else h n) P := by
  by_cases hc : c
  · exact Tells.pos hc (hp hc)
  · exact Tells.neg hc (hn hc)
theorem Tells.step {f : Nat → Option Bool} (e : ∀ k, g (k + 1) = f k) (k : Tells f P) : Tells g P := by
  obtain ⟨b, hb, hi⟩ := k
  exact ⟨b, Ev.step e hb, hi⟩
theorem Tells.bind {α : Type} {g : Nat → Option α} {f : Nat → α → Option Bool} {a : α} (h : Ev g a) (k : Tells (fun n => f n a) P) : Tells (fun n => (g n).bind (f n)) P := by
  obtain ⟨b, hb, hi⟩ := k
  exact ⟨b, Ev.bind h hb, hi⟩
theorem Tells.bindc {α : Type} {o : Option α} {f : Nat → α → Option Bool} {a : α} (h : o = some a) (k : Tells (fun n => f n a) P) : Tells (fun n => o.bind (f n)) P := Tells.bind (ev_const h) k
theorem Tells.yes (h : P) : Tells (fun _ => some true) P := ⟨true, Ev.now _, by simp [h]⟩
theorem Tells.no (h : ¬ P) : Tells (fun _ => some false) P := ⟨false, Ev.now _, by simp [h]⟩
theorem Tells.dec [Decidable Q] (h : Q ↔ P) : Tells (fun _ => some (decide Q)) P := ⟨decide Q, Ev.now _, by simpa using h⟩
theorem Tells.iff (k : Tells g P) (h : P ↔ Q) : Tells g Q := by
  obtain ⟨b, hb, hi⟩ := k
  exact ⟨b, hb, hi.trans h⟩
theorem Tells.ev (k : Tells g P) {b : Bool} (h : b = true ↔ P) : Ev g b := by
  obtain ⟨c, hc, hi⟩ := k
  have : c = b := by
    rw [Bool.eq_iff_iff]
    exact hi.trans h.symm
  exact this ▸ hc
theorem Tells.of {b : Bool} (h : Ev g b) (hp : b = true ↔ P) : Tells g P := ⟨b, h, hp⟩
end

/-! ### numbers -/
theorem w64 {x : Int} (h0 : -9223372036854775808 ≤ x) (h1 : x ≤ 9223372036854775807) : wrap64 x = x := by
  unfold wrap64
  omega
theorem w64s {i : Nat} (h : i < 9223372036854775807) : wrap64 ((i : Int) + 1) = ((i + 1 : Nat) : Int) := by
  unfold wrap64
  omega
theorem rdN (xs : List Int) (i : Nat) : rd xs (i : Int) = xs.getD i 0 := by simp [rd]
theorem wraps_i64 (n : Int) (h₀ : 0 ≤ n) (h₁ : n < 2 ^ 63) : IntKind.i64.wrap n = n := by rw [IntKind.wrap_i64]; omega
theorem bits_i64 : IntKind.i64.bits = 64 := rfl
theorem shr_nat (m i : Nat) (hi : i ≤ 64) : shr .i64 (m : Int) (i : Int) = ((m / 2 ^ i : Nat) : Int) := by
  unfold shr
  rw [Int.toNat_natCast, bits_i64, Nat.min_eq_left hi]
  norm_cast
/-- 2 to the power of n, under a name of its own. -/
def pw (n : Nat) : Nat := 2 ^ n
theorem pw_pos (n : Nat) : 0 < pw n := Nat.two_pow_pos n
theorem pw5 {n : Nat} (h : n ≤ 5) : pw n ≤ 32 := Nat.pow_le_pow_right (n := 2) (by decide) h
theorem pw16 {n : Nat} (h : n ≤ 16) : pw n ≤ 65536 := Nat.pow_le_pow_right (n := 2) (by decide) h
theorem shl_nat (n : Nat) (hn : n ≤ 62) : shl .i64 1 (n : Int) = ((pw n : Nat) : Int) := by
  unfold shl pw
  rw [Int.toNat_natCast, bits_i64, Nat.min_eq_left (by omega), Int.one_mul]
  have h : (2 ^ n : Nat) ≤ 2 ^ 62 := Nat.pow_le_pow_right (by decide) hn
  have e : ((2 : Int) ^ n) = ((2 ^ n : Nat) : Int) := by norm_cast
  rw [e]
  generalize (2 ^ n : Nat) = q at h ⊢
  exact wraps_i64 _ (by omega) (by omega)
theorem and1 (m : Nat) (hm : m < 9223372036854775808) : Go.bits .and .i64 (m : Int) 1 = ((m % 2 : Nat) : Int) := by
  have h := bits_mask .i64 63 (by decide) wraps_i64 1 (by decide) (m : Int) (by omega) (by omega)
  simpa using h
theorem tmod2 (m : Nat) : Int.tmod (m : Int) 2 = ((m % 2 : Nat) : Int) := rfl
theorem tdiv2 (m : Nat) : Int.tdiv (m : Int) 2 = ((m / 2 : Nat) : Int) := rfl
/-- The bit i of m. -/
def bitN (m i : Nat) : Nat := m / 2 ^ i % 2
theorem bitN_lt (m i : Nat) : bitN m i < 2 := Nat.mod_lt _ (by decide)
theorem bitN_01 (m i : Nat) : bitN m i = 0 ∨ bitN m i = 1 := by have := bitN_lt m i; omega
theorem shr_and1 (m i : Nat) (hi : i ≤ 64) (hm : m < 9223372036854775808) : Go.bits .and .i64 (shr .i64 (m : Int) (i : Int)) 1 = ((bitN m i : Nat) : Int) := by
  rw [shr_nat m i hi]
  exact and1 _ (Nat.lt_of_le_of_lt (Nat.div_le_self _ _) hm)
theorem shr_tmod2 (m i : Nat) (hi : i ≤ 64) : Int.tmod (shr .i64 (m : Int) (i : Int)) 2 = ((bitN m i : Nat) : Int) := by
  rw [shr_nat m i hi]
  rfl
theorem u64_nat (m : Nat) (hm : m < 18446744073709551616) : IntKind.u64.wrap (m : Int) = (m : Int) := by
  simp [IntKind.wrap, IntKind.bits, IntKind.signed]
  omega
/-- How many of the first n bits of m are 1. -/
def popN : Nat → Nat → Nat
  | 0, _ => 0
  | n + 1, m => m % 2 + popN n (m / 2)
theorem popN_zero (n : Nat) : popN n 0 = 0 := by
  induction n with
  | zero => rfl
  | succ n ih => simp [popN, ih]
theorem popN_more {n : Nat} : ∀ {m : Nat}, m < 2 ^ n → ∀ k, n ≤ k → popN k m = popN n m := by
  induction n with
  | zero =>
    intro m h k _
    obtain rfl : m = 0 := by simpa using h
    rw [popN_zero, popN_zero]
  | succ n ih =>
    intro m h k hk
    obtain ⟨j, rfl⟩ : ∃ j, k = j + 1 := ⟨k - 1, by omega⟩
    simp only [popN]
    rw [ih (m := m / 2) (by rw [Nat.pow_succ] at h; omega) j (by omega)]
end Go.Proofs.Ytbhmippoeimliaa.M

/- The reader of draws: each pick tells a number in its bounds and goes one step on. -/
set_option linter.unusedVariables false
set_option linter.unusedSimpArgs false
namespace Go.Proofs.Ytbhmippoeimliaa.M
open Go Go.RowKit Go.Proofs.YtbhmippoeimliaaW.PrintWords Go.Proofs.Ytbhmippoeimliaa.P

theorem bits_xor_i64 (a b : Nat) (ha : a < 2 ^ 62) (hb : b < 2 ^ 62) : Go.bits .xor .i64 (a : Int) (b : Int) = ((a ^^^ b : Nat) : Int) := by
  have hx : a ^^^ b < 2 ^ 62 := Nat.xor_lt_two_pow ha hb
  have ea : a % 2 ^ IntKind.i64.bits = a := Nat.mod_eq_of_lt (Nat.lt_of_lt_of_le ha (by decide))
  have eb : b % 2 ^ IntKind.i64.bits = b := Nat.mod_eq_of_lt (Nat.lt_of_lt_of_le hb (by decide))
  simp only [Go.bits, BitVec.ofInt_natCast, BitVec.toNat_xor, BitVec.toNat_ofNat, ea, eb]
  generalize a ^^^ b = q at hx ⊢
  exact wraps_i64 (q : Int) (by omega) (by omega)
/-- The bytes of a code. -/
def Bytes (b : List Int) : Prop := b.length ≤ 2000 ∧ ∀ x ∈ b, 0 ≤ x ∧ x ≤ 255
theorem Bytes.rd {b : List Int} (h : Bytes b) (i : Int) : 0 ≤ rd b i ∧ rd b i ≤ 255 := by
  unfold Go.Proofs.YtbhmippoeimliaaW.PrintWords.rd
  by_cases hi : i.toNat < b.length
  · rw [List.getD_eq_getElem?_getD, List.getElem?_eq_getElem hi]
    exact h.2 _ (List.getElem_mem hi)
  · rw [List.getD_eq_getElem?_getD, List.getElem?_eq_none (by omega)]
    exact ⟨by decide, by decide⟩
theorem tmod_bd (x n : Int) (hx : 0 ≤ x) (hn : 0 < n) : 0 ≤ Int.tmod x n ∧ Int.tmod x n < n := by
  rw [Int.tmod_eq_emod_of_nonneg hx]
  exact ⟨Int.emod_nonneg _ (by omega), Int.emod_lt_of_pos _ hn⟩
theorem tdiv_bd (x n : Int) (hx : 0 ≤ x) (hn : 0 < n) : 0 ≤ Int.tdiv x n ∧ Int.tdiv x n ≤ x := by
  rw [Int.tdiv_eq_ediv_of_nonneg hx]
  exact ⟨Int.ediv_nonneg hx (by omega), Int.ediv_le_self _ hx⟩
/-- What a pick tells, and where it leaves the reader. -/
theorem pickE (b : List Int) (hb : Bytes b) (p : Nat) (hp : p ≤ 1000000) (n : Int) :
    ∃ r : Nat, Ev (fun k => spec_l20Rd_pick.f k b (p : Int) n) ((r : Int), ((p + 1 : Nat) : Int)) ∧ (1 ≤ n → (r : Int) < n) ∧ (n < 1 → r = 0) := by
  have hl := hb.1
  unfold spec_l20Rd_pick.f
  rw [w64s (by omega)]
  by_cases h : n < 1
  · refine ⟨0, ev_pos h ?_, fun h' => by omega, fun _ => rfl⟩
    refine Ev.step (fun k => by rw [spec_l20Rd_pick.j0]) ?_
    exact ev_pos rfl (ev_ret rfl)
  by_cases h0 : b.length = 0
  · refine ⟨0, ev_neg h ?_, fun h' => by omega, fun _ => rfl⟩
    rw [show ((b.length : Int) == 0) = true by simp [h0]]
    refine Ev.step (fun k => by rw [spec_l20Rd_pick.j0]) ?_
    exact ev_pos rfl (ev_ret rfl)
  have ep : wrap64 (((p + 1 : Nat) : Int) - 1) = (p : Int) := by
    rw [w64 (by omega) (by omega)]
    omega
  have eb : ((b.length : Int) == 0) = false := by
    rw [beq_eq_false_iff_ne]
    omega
  have out : ∀ x : Int, 0 ≤ x → Ev (fun k => spec_l20Rd_pick.j0 k n false b ((p + 1 : Nat) : Int)) (Int.tmod x n, ((p + 1 : Nat) : Int)) →
      ∃ r : Nat, Ev (fun k => if n < 1 then spec_l20Rd_pick.j0 k n true b ((p + 1 : Nat) : Int) else spec_l20Rd_pick.j0 k n ((b.length : Int) == 0) b ((p + 1 : Nat) : Int)) ((r : Int), ((p + 1 : Nat) : Int)) ∧ (1 ≤ n → (r : Int) < n) ∧ (n < 1 → r = 0) := fun x hx hE => by
    have hm := tmod_bd x n hx (by omega)
    refine ⟨(Int.tmod x n).toNat, ev_neg h ?_, fun _ => by omega, fun h' => absurd h' h⟩
    rw [eb, Int.toNat_of_nonneg hm.1]
    exact hE
  by_cases hlt : p < b.length
  · have hr := hb.rd (p : Int)
    refine out (wrap64 (rd b (p : Int))) (by rw [w64 (by omega) (by omega)]; omega) ?_
    refine Ev.step (fun k => by rw [spec_l20Rd_pick.j0]) ?_
    rw [ep]
    refine ev_neg (by decide) ?_
    refine ev_pos (by omega) ?_
    refine ev_pos (by omega) ?_
    exact ev_neg (by omega) (ev_ret rfl)
  · have q1 := tmod_bd (p : Int) (b.length : Int) (by omega) (by omega)
    have q2 := tdiv_bd (p : Int) (b.length : Int) (by omega) (by omega)
    have e7 : wrap64 (wrap64 ((p : Int) * 7) + 3) = (p : Int) * 7 + 3 := by rw [w64 (x := (p : Int) * 7) (by omega) (by omega), w64 (by omega) (by omega)]
    have q3 := tmod_bd ((p : Int) * 7 + 3) (b.length : Int) (by omega) (by omega)
    have hr1 := hb.rd (Int.tmod (p : Int) (b.length : Int))
    have hr2 := hb.rd (Int.tmod ((p : Int) * 7 + 3) (b.length : Int))
    obtain ⟨x, hx, hxb⟩ : ∃ x : Nat, wrap64 (wrap64 (wrap64 (wrap64 (wrap64 (rd b (Int.tmod (p : Int) (b.length : Int))) * 131) + wrap64 (wrap64 (rd b (Int.tmod ((p : Int) * 7 + 3) (b.length : Int))) * 1117)) + wrap64 ((p : Int) * 29)) + wrap64 (wrap64 (Int.tdiv (p : Int) (b.length : Int)) * 53)) = (x : Int) ∧ x < 2 ^ 60 := by
      generalize rd b (Int.tmod (p : Int) (b.length : Int)) = u at hr1 ⊢
      generalize rd b (Int.tmod ((p : Int) * 7 + 3) (b.length : Int)) = v at hr2 ⊢
      generalize Int.tdiv (p : Int) (b.length : Int) = t at q2 ⊢
      rw [w64 (x := u) (by omega) (by omega), w64 (x := v) (by omega) (by omega), w64 (x := t) (by omega) (by omega), w64 (x := u * 131) (by omega) (by omega), w64 (x := v * 1117) (by omega) (by omega), w64 (x := t * 53) (by omega) (by omega), w64 (x := (p : Int) * 29) (by omega) (by omega),
        w64 (x := u * 131 + v * 1117) (by omega) (by omega), w64 (x := u * 131 + v * 1117 + (p : Int) * 29) (by omega) (by omega), w64 (x := u * 131 + v * 1117 + (p : Int) * 29 + t * 53) (by omega) (by omega)]
      exact ⟨(u * 131 + v * 1117 + (p : Int) * 29 + t * 53).toNat, by omega, by omega⟩
    refine out (((x ^^^ (x / 64)) : Nat) : Int) (by omega) ?_
    refine Ev.step (fun k => by rw [spec_l20Rd_pick.j0]) ?_
    rw [ep, e7, hx, show Int.tdiv (x : Int) 64 = ((x / 64 : Nat) : Int) from rfl, w64 (x := ((x / 64 : Nat) : Int)) (by omega) (by omega), bits_xor_i64 _ _ (by omega) (by omega)]
    refine ev_neg (by decide) ?_
    refine ev_neg (by omega) ?_
    refine ev_neg (by omega) ?_
    refine ev_pos (by omega) ?_
    refine ev_pos (by omega) ?_
    refine ev_pos (by omega) ?_
    refine ev_pos (by omega) ?_
    exact ev_neg (by omega) (ev_ret rfl)
/-- A code, opened. -/
theorem openE (l : List Int) (hw : ∀ x ∈ l, (Lit.int .u8 x).wf = true) : ∃ b, spec_l20Open.f l = some (b, ((0 : Nat) : Int)) ∧ Bytes b := by
  have hx : ∀ x ∈ l, 0 ≤ x ∧ x ≤ 255 := fun x hx => by
    have := hw x hx
    simp [Lit.wf, IntKind.min, IntKind.max, IntKind.bits, IntKind.signed] at this
    omega
  unfold spec_l20Open.f
  by_cases h : (l.length : Int) > 2000
  · rw [if_pos h, if_pos (by omega)]
    exact ⟨l.take 2000, rfl, by simp; omega, fun x hm => hx x (List.mem_of_mem_take hm)⟩
  · rw [if_neg h]
    exact ⟨l, rfl, by omega, hx⟩
end Go.Proofs.Ytbhmippoeimliaa.M

/- Lists by their entries. -/
set_option linter.unusedVariables false
set_option linter.unusedSimpArgs false
namespace Go.Proofs.Ytbhmippoeimliaa.M
open Go Go.RowKit Go.Proofs.YtbhmippoeimliaaW.PrintWords
theorem getD_lt {α : Type} (l : List α) (d : α) (j : Nat) (h : j < l.length) : l.getD j d = l[j] := by
  rw [List.getD_eq_getElem?_getD, List.getElem?_eq_getElem h]
  rfl
theorem ext_getD {α : Type} (d : α) (x l : List α) (hl : x.length = l.length) (h : ∀ j, j < l.length → x.getD j d = l.getD j d) : x = l := by
  refine List.ext_getElem hl fun j h1 h2 => ?_
  have := h j h2
  rwa [getD_lt _ _ _ h1, getD_lt _ _ _ h2] at this
theorem set_getD {α : Type} (d : α) (x : List α) (i : Nat) (v : α) (hi : i < x.length) (j : Nat) : (x.set i v).getD j d = if j = i then v else x.getD j d := by
  by_cases e : j = i
  · subst e
    rw [if_pos rfl, List.getD_eq_getElem?_getD, List.getElem?_set_self hi]
    rfl
  · rw [if_neg e, List.getD_eq_getElem?_getD, List.getElem?_set_ne (Ne.symm e), ← List.getD_eq_getElem?_getD]
theorem getD_mem {α : Type} (l : List α) (d : α) (j : Nat) (h : j < l.length) : l.getD j d ∈ l := by
  rw [getD_lt l d j h]
  exact List.getElem_mem h
theorem getD_all {α : Type} (l : List α) (d : α) (P : α → Prop) (hd : P d) (h : ∀ x ∈ l, P x) (j : Nat) : P (l.getD j d) := by
  by_cases hj : j < l.length
  · exact h _ (getD_mem l d j hj)
  · rw [List.getD_eq_getElem?_getD, List.getElem?_eq_none (by omega)]
    exact hd
def castL (l : List Nat) : List Int := l.map fun w : Nat => (w : Int)
theorem castL_len (l : List Nat) : (castL l).length = l.length := by simp [castL]
theorem castL_getD (l : List Nat) (i : Nat) : (castL l).getD i 0 = ((l.getD i 0 : Nat) : Int) := by
  unfold castL
  by_cases h : i < l.length
  · rw [getD_lt _ _ _ (by simpa using h), getD_lt _ _ _ h, List.getElem_map]
  · rw [List.getD_eq_getElem?_getD, List.getElem?_eq_none (by simpa using h), List.getD_eq_getElem?_getD, List.getElem?_eq_none (by omega)]
    rfl
end Go.Proofs.Ytbhmippoeimliaa.M

/- Terms: a row of marks is a term just if it is what a tree writes; both TermOk tell so, and both ways of asking whether a term holds tell the tree's value. -/
set_option linter.unusedVariables false
set_option linter.unusedSimpArgs false
namespace Go.Proofs.Ytbhmippoeimliaa.M
open Go Go.RowKit Go.Proofs.YtbhmippoeimliaaW.PrintWords Go.Proofs.Ytbhmippoeimliaa.P
abbrev Mk := S81
abbrev zM : Mk := z81
theorem peopleOkT (n : Int) : impl_peopleOk.f n = some (decide (1 ≤ n ∧ n ≤ 4)) := by
  unfold impl_peopleOk.f
  by_cases h : n ≥ 1
  · rw [if_pos h]
    simp [h]
  · rw [if_neg h]
    simp
    intro h'
    omega
theorem rdM (s : List Mk) (i : Nat) : rd_T81 s (i : Int) = s.getD i zM := by simp [rd_T81]
theorem pwm4 {n : Nat} (h : n ≤ 4) : pw n ≤ 16 := Nat.pow_le_pow_right (n := 2) (by decide) h

/-! ### which rows are terms -/
/-- How many parts there are behind a mark. -/
def stepP (n : Int) (p : Nat) (m : Mk) : Option Nat :=
  if m.f0 = 0 then (if 0 ≤ m.f1 ∧ m.f1 < n then some (p + 1) else none)
  else if m.f0 = 1 then (if 0 ≤ m.f1 ∧ m.f1 ≤ n + 1 then some (p + 1) else none)
  else if m.f0 = 2 then (if m.f1 = 0 ∧ 1 ≤ p then some p else none)
  else if 3 ≤ m.f0 ∧ m.f0 ≤ 5 then (if m.f1 = 0 ∧ 2 ≤ p then some (p - 1) else none)
  else none
def foldP (n : Int) : Nat → List Mk → Option Nat
  | p, [] => some p
  | p, m :: l => (stepP n p m).bind fun q => foldP n q l
/-- A term for so many people. -/
def TermP (n : Int) (l : List Mk) : Prop := (1 ≤ n ∧ n ≤ 4) ∧ l.length ≤ 15 ∧ foldP n 0 l = some 1
instance (n : Int) (l : List Mk) : Decidable (TermP n l) := by unfold TermP; infer_instance
theorem stepP_le {n : Int} {p q : Nat} {m : Mk} (h : stepP n p m = some q) : q ≤ p + 1 := by
  unfold stepP at h
  repeat' split at h
  all_goals first | (cases h; omega) | cases h
theorem drop_getD (l : List Mk) (i : Nat) (h : i < l.length) : l.drop i = l.getD i zM :: l.drop (i + 1) := by
  rw [List.drop_eq_getElem_cons h, getD_lt l zM i h]
theorem foldP_drop (n : Int) (p : Nat) (l : List Mk) (i : Nat) (h : i < l.length) : foldP n p (l.drop i) = (stepP n p (l.getD i zM)).bind fun q => foldP n q (l.drop (i + 1)) := by
  rw [drop_getD l i h]
  rfl
theorem impl_termOk_l (n : Int) (s : List Mk) (hn : 1 ≤ n ∧ n ≤ 4) (hs : s.length ≤ 15) : ∀ d i p : Nat, i + d = s.length → p ≤ i →
    Tells (fun k => impl_TermOk.l0 k n (p : Int) s (s.length : Int) (i : Int)) (foldP n p (s.drop i) = some 1) := by
  intro d
  induction d with
  | zero =>
    intro i p hi hp
    refine Tells.step (fun k => by rw [impl_TermOk.l0]) ?_
    refine Tells.neg (by omega) ?_
    rw [List.drop_eq_nil_of_le (by omega)]
    refine Tells.of (Ev.now _) ?_
    rw [beq_iff_eq]
    simp only [foldP, Option.some.injEq]
    omega
  | succ d ih =>
    intro i p hi hp
    refine Tells.step (fun k => by rw [impl_TermOk.l0]) ?_
    rw [foldP_drop n p s i (by omega), rdM, w64s (i := i) (by omega), w64s (i := p) (by omega), w64 (x := n + 1) (by omega) (by omega)]
    refine Tells.pos (by omega) ?_
    refine Tells.pos (by omega) ?_
    refine Tells.pos (by omega) ?_
    generalize s.getD i zM = m
    have go : ∀ q, q ≤ i + 1 → stepP n p m = some q → Tells (fun k => impl_TermOk.l0 k n (q : Int) s (s.length : Int) ((i + 1 : Nat) : Int)) ((stepP n p m).bind (fun q => foldP n q (s.drop (i + 1))) = some 1) := fun q hq e => by
      rw [e]
      exact ih (i + 1) q (by omega) hq
    have no : stepP n p m = none → Tells (fun _ => some false) ((stepP n p m).bind (fun q => foldP n q (s.drop (i + 1))) = some 1) := fun e => by
      rw [e]
      exact Tells.no (by simp)
    have bin : 3 ≤ m.f0 → m.f0 ≤ 5 → Tells (fun k => impl_TermOk.j2 k n (p : Int) s (s.length : Int) (i : Int) true m.f0 m.f1) ((stepP n p m).bind (fun q => foldP n q (s.drop (i + 1))) = some 1) := fun h3 h5 => by
      refine Tells.step (fun k => by rw [impl_TermOk.j2]) ?_
      rw [w64s (by omega)]
      refine Tells.pos rfl ?_
      refine Tells.ite (fun h => ?_) (fun h => no (by unfold stepP; rw [if_neg (by omega), if_neg (by omega), if_neg (by omega), if_pos ⟨h3, h5⟩, if_neg (by omega)]))
      refine Tells.ite (fun h' => no (by unfold stepP; rw [if_neg (by omega), if_neg (by omega), if_neg (by omega), if_pos ⟨h3, h5⟩, if_neg (by omega)])) (fun h' => ?_)
      rw [w64 (x := (p : Int) - 1) (by omega) (by omega), show (p : Int) - 1 = ((p - 1 : Nat) : Int) by omega]
      exact go (p - 1) (by omega) (by unfold stepP; rw [if_neg (by omega), if_neg (by omega), if_neg (by omega), if_pos ⟨h3, h5⟩, if_pos ⟨h, by omega⟩])
    refine Tells.ite (fun h0 => ?_) (fun h0 => ?_)
    · refine Tells.ite (fun h => no (by unfold stepP; rw [if_pos h0, if_neg (by omega)])) (fun h => ?_)
      refine Tells.ite (fun h' => no (by unfold stepP; rw [if_pos h0, if_neg (by omega)])) (fun h' => ?_)
      exact go (p + 1) (by omega) (by unfold stepP; rw [if_pos h0, if_pos (by omega)])
    refine Tells.ite (fun h1 => ?_) (fun h1 => ?_)
    · refine Tells.ite (fun h => no (by unfold stepP; rw [if_neg h0, if_pos h1, if_neg (by omega)])) (fun h => ?_)
      refine Tells.ite (fun h' => no (by unfold stepP; rw [if_neg h0, if_pos h1, if_neg (by omega)])) (fun h' => ?_)
      exact go (p + 1) (by omega) (by unfold stepP; rw [if_neg h0, if_pos h1, if_pos (by omega)])
    refine Tells.ite (fun h2 => ?_) (fun h2 => ?_)
    · refine Tells.ite (fun h => ?_) (fun h => no (by unfold stepP; rw [if_neg h0, if_neg h1, if_pos h2, if_neg (by omega)]))
      refine Tells.ite (fun h' => no (by unfold stepP; rw [if_neg h0, if_neg h1, if_pos h2, if_neg (by omega)])) (fun h' => ?_)
      exact go p (by omega) (by unfold stepP; rw [if_neg h0, if_neg h1, if_pos h2, if_pos (by omega)])
    refine Tells.ite (fun h3 => ?_) (fun h3 => ?_)
    · rw [show (m.f0 == 3) = true by simp [h3]]
      exact bin (by omega) (by omega)
    refine Tells.ite (fun h4 => ?_) (fun h4 => ?_)
    · rw [show (m.f0 == 4) = true by simp [h4]]
      exact bin (by omega) (by omega)
    by_cases h5 : m.f0 = 5
    · rw [show (m.f0 == 5) = true by simp [h5]]
      exact bin (by omega) (by omega)
    · rw [show (m.f0 == 5) = false by simp [h5]]
      refine Tells.step (fun k => by rw [impl_TermOk.j2]) ?_
      refine Tells.neg (by decide) ?_
      exact no (by unfold stepP; rw [if_neg h0, if_neg h1, if_neg h2, if_neg (by omega)])
theorem impl_termOk (n : Int) (s : List Mk) : Tells (fun k => impl_TermOk.f k n s) (TermP n s) := by
  unfold impl_TermOk.f
  refine Tells.bindc (peopleOkT n) ?_
  have no : ¬ TermP n s → Tells (fun k => impl_TermOk.j0 k n s true) (TermP n s) := fun h => by
    refine Tells.step (fun k => by rw [impl_TermOk.j0]) ?_
    exact Tells.pos rfl (Tells.no h)
  refine Tells.ite (fun h => ?_) (fun h => no fun h' => h (decide_eq_true h'.1))
  have hn := of_decide_eq_true h
  refine Tells.ite (fun h1 => no fun h' => ?_) (fun h1 => ?_)
  · have : s = [] := List.eq_nil_of_length_eq_zero (by omega)
    subst this
    simp [TermP, foldP] at h'
  by_cases h2 : (s.length : Int) > 15
  · rw [decide_eq_true h2]
    exact no fun h' => by have := h'.2.1; omega
  · rw [decide_eq_false h2]
    refine Tells.step (fun k => by rw [impl_TermOk.j0]) ?_
    refine Tells.neg (by decide) ?_
    refine (impl_termOk_l n s hn (by omega) s.length 0 0 (by omega) (by omega)).iff ?_
    rw [List.drop_zero]
    exact ⟨fun h => ⟨hn, by omega, h⟩, fun h => h.2.2⟩
end Go.Proofs.Ytbhmippoeimliaa.M

/- A term is what a tree writes; both ways of asking whether it holds in a world tell the tree's value. -/
set_option linter.unusedVariables false
set_option linter.unusedSimpArgs false
namespace Go.Proofs.Ytbhmippoeimliaa.M
open Go Go.RowKit Go.Proofs.YtbhmippoeimliaaW.PrintWords Go.Proofs.Ytbhmippoeimliaa.P

inductive Tm
  | leaf (m : Mk)
  | neg (t : Tm)
  | bin (c : Int) (a b : Tm)
def Tm.enc : Tm → List Mk
  | .leaf m => [m]
  | .neg t => t.enc ++ [⟨2, 0⟩]
  | .bin c a b => a.enc ++ b.enc ++ [⟨c, 0⟩]
def Tm.Ok (n : Int) : Tm → Prop
  | .leaf m => (m.f0 = 0 ∧ 0 ≤ m.f1 ∧ m.f1 < n) ∨ (m.f0 = 1 ∧ 0 ≤ m.f1 ∧ m.f1 ≤ n + 1)
  | .neg t => t.Ok n
  | .bin c a b => (c = 3 ∨ c = 4 ∨ c = 5) ∧ a.Ok n ∧ b.Ok n
def heads (w : Nat) : Nat := bitN w 0 + bitN w 1 + bitN w 2 + bitN w 3
def op2 (c : Int) (a b : Bool) : Bool := if c = 3 then a && b else if c = 4 then a || b else a == b
def Tm.val (w : Nat) : Tm → Bool
  | .leaf m => if m.f0 = 0 then bitN w m.f1.toNat == 1 else decide (m.f1 ≤ (heads w : Int))
  | .neg t => !t.val w
  | .bin c a b => op2 c (a.val w) (b.val w)
theorem Tm.enc_pos (t : Tm) : 0 < t.enc.length := by
  cases t <;> simp [Tm.enc] <;> try omega
/-- The parts, the last one first. -/
def flat : List Tm → List Mk
  | [] => []
  | t :: r => flat r ++ t.enc
theorem parse (n : Int) : ∀ (l : List Mk) (r : List Tm) (q : Nat), (∀ t ∈ r, t.Ok n) → foldP n r.length l = some q →
    ∃ r' : List Tm, r'.length = q ∧ (∀ t ∈ r', t.Ok n) ∧ flat r ++ l = flat r' := by
  intro l
  induction l with
  | nil =>
    intro r q hr h
    refine ⟨r, by simpa [foldP] using h, hr, by simp⟩
  | cons m l ih =>
    intro r q hr h
    simp only [foldP] at h
    obtain ⟨p, hp, h⟩ := Option.bind_eq_some_iff.1 h
    unfold stepP at hp
    have leaf : Tm.Ok n (.leaf m) → p = r.length + 1 → ∃ r' : List Tm, r'.length = q ∧ (∀ t ∈ r', t.Ok n) ∧ flat r ++ m :: l = flat r' := fun hk e => by
      subst e
      obtain ⟨r', h1, h2, h3⟩ := ih (.leaf m :: r) q (by
        intro t ht
        rcases List.mem_cons.1 ht with rfl | ht
        · exact hk
        · exact hr t ht) h
      refine ⟨r', h1, h2, ?_⟩
      rw [← h3]
      simp [flat, Tm.enc]
    split at hp
    · rename_i h0
      split at hp
      · rename_i h1
        exact leaf (.inl ⟨h0, h1.1, h1.2⟩) (Option.some.inj hp).symm
      · cases hp
    split at hp
    · rename_i h0
      split at hp
      · rename_i h1
        exact leaf (.inr ⟨h0, h1.1, h1.2⟩) (Option.some.inj hp).symm
      · cases hp
    split at hp
    · rename_i h0
      split at hp
      · rename_i h1
        obtain rfl := Option.some.inj hp
        match r, hr, h1.2, h with
        | t :: r, hr, _, h =>
          obtain ⟨r', e1, e2, e3⟩ := ih (.neg t :: r) q (by
            intro x hx
            rcases List.mem_cons.1 hx with rfl | hx
            · exact hr t (by simp)
            · exact hr x (by simp [hx])) h
          refine ⟨r', e1, e2, ?_⟩
          rw [← e3]
          obtain ⟨m0, m1⟩ := m
          obtain rfl : m0 = 2 := h0
          obtain rfl : m1 = 0 := h1.1
          simp [flat, Tm.enc]
      · cases hp
    split at hp
    · rename_i h0
      split at hp
      · rename_i h1
        obtain rfl := Option.some.inj hp
        match r, hr, h1.2, h with
        | b :: a :: r, hr, _, h =>
          obtain ⟨r', e1, e2, e3⟩ := ih (.bin m.f0 a b :: r) q (by
            intro x hx
            rcases List.mem_cons.1 hx with rfl | hx
            · exact ⟨by omega, hr a (by simp), hr b (by simp)⟩
            · exact hr x (by simp [hx])) h
          refine ⟨r', e1, e2, ?_⟩
          rw [← e3]
          obtain ⟨m0, m1⟩ := m
          obtain rfl : m1 = 0 := h1.1
          simp [flat, Tm.enc]
      · cases hp
    · cases hp
/-- A term is what a tree writes. -/
theorem TermP.tree {n : Int} {l : List Mk} (h : TermP n l) : ∃ t : Tm, t.Ok n ∧ l = t.enc := by
  obtain ⟨r, h1, h2, h3⟩ := parse n l [] 1 (by simp) h.2.2
  match r, h1, h2, h3 with
  | [t], _, h2, h3 => exact ⟨t, h2 t (by simp), by simpa [flat] using h3⟩
/-- What a tree writes adds one part. -/
theorem fold_enc (n : Int) (t : Tm) : ∀ (p : Nat) (l : List Mk), t.Ok n → foldP n p (t.enc ++ l) = foldP n (p + 1) l := by
  induction t with
  | leaf m =>
    intro p l h
    simp only [Tm.enc, List.singleton_append, foldP]
    rcases h with ⟨h0, h1⟩ | ⟨h0, h1⟩
    · unfold stepP
      rw [if_pos h0, if_pos h1]
      rfl
    · unfold stepP
      rw [if_neg (by omega), if_pos h0, if_pos h1]
      rfl
  | neg t ih =>
    intro p l h
    simp only [Tm.enc, List.append_assoc, List.singleton_append]
    rw [ih p _ h]
    simp [foldP, stepP]
  | bin c a b iha ihb =>
    intro p l h
    obtain ⟨hc, ha, hb⟩ := h
    simp only [Tm.enc, List.append_assoc, List.singleton_append]
    rw [iha p _ ha, ihb _ _ hb]
    simp only [foldP, stepP]
    rw [if_neg (by omega), if_neg (by omega), if_neg (by omega), if_pos (by omega), if_pos ⟨trivial, by omega⟩]
    rfl
theorem termP_enc (n : Int) (t : Tm) (hn : 1 ≤ n ∧ n ≤ 4) (ht : t.Ok n) (hl : t.enc.length ≤ 15) : TermP n t.enc := by
  refine ⟨hn, hl, ?_⟩
  have := fold_enc n t 0 [] ht
  rw [List.append_nil] at this
  rw [this]
  rfl

/-! ### how many tell the truth in a world -/
theorem ones_heads (w : Nat) (hw : w < 16) : bits_OnesCount.f (IntKind.u64.wrap (w : Int)) = some ((heads w : Nat) : Int) := by
  have h : ∀ w : Fin 16, bits_OnesCount.f (IntKind.u64.wrap (w.val : Int)) = some ((heads w.val : Nat) : Int) := by decide +kernel
  exact h ⟨w, hw⟩

/-! ### the program's way: a stack -/
theorem rdB (s : List Bool) (i : Nat) : rdOf false s (i : Int) = s.getD i false := by simp [rdOf]
theorem getD_at {α : Type} (d : α) (pre : List α) (x : α) (post : List α) : (pre ++ x :: post).getD pre.length d = x := by
  rw [getD_lt _ _ _ (by simp)]
  simp
theorem getD_last {α : Type} (d : α) (pre : List α) (x : α) : (pre ++ [x]).getD pre.length d = x := getD_at d pre x []
theorem beq_one (a : Nat) : ((a : Int) == (1 : Int)) = (a == 1) := by
  rw [Bool.eq_iff_iff, beq_iff_eq, beq_iff_eq]
  omega
theorem impl_push (n : Int) (hn : n ≤ 4) (w : Nat) (hw : w < 16) (L : List Mk) (hL : L.length < 4611686018427387904) (r : Bool) (t : Tm) : ∀ (pre post : List Mk) (st : List Bool), t.Ok n → L = pre ++ t.enc ++ post → st.length ≤ pre.length → L.length ≤ 1000 →
    Ev (fun k => impl_holds.l0 k (w : Int) (st ++ [t.val w]) L (L.length : Int) ((pre.length + t.enc.length : Nat) : Int)) r → Ev (fun k => impl_holds.l0 k (w : Int) st L (L.length : Int) (pre.length : Int)) r := by
  induction t with
  | leaf m =>
    intro pre post st ht hl hs h1000 h
    refine Ev.step (fun k => by rw [impl_holds.l0]) ?_
    have hlen : L.length = pre.length + 1 + post.length := by rw [hl]; simp [Tm.enc]; omega
    have hget : L.getD pre.length zM = m := by
      rw [hl]
      simp only [Tm.enc, List.append_assoc, List.singleton_append]
      exact getD_at zM pre m post
    rw [rdM, hget, w64s (i := pre.length) (by omega)]
    refine ev_pos (by omega) ?_
    refine ev_pos (by omega) ?_
    refine ev_pos (by omega) ?_
    simp only [Tm.enc, List.length_singleton, Tm.val] at h
    rcases ht with ⟨h0, h1, h2⟩ | ⟨h0, h1, h2⟩
    · refine ev_pos h0 ?_
      refine ev_pos h1 ?_
      refine ev_pos (by omega) ?_
      rw [if_pos h0] at h
      rw [show m.f1 = ((m.f1.toNat : Nat) : Int) by omega, shr_and1 w m.f1.toNat (by omega) (by omega), beq_one]
      exact h
    · refine ev_neg (by omega) ?_
      refine ev_pos h0 ?_
      refine ev_bindc (ones_heads w hw) ?_
      refine ev_pos (by omega) ?_
      rw [if_neg (by omega)] at h
      exact h
  | neg t ih =>
    intro pre post st ht hl hs h1000 h
    refine ih pre (⟨2, 0⟩ :: post) st ht (by rw [hl]; simp [Tm.enc]) hs h1000 ?_
    refine Ev.step (fun k => by rw [impl_holds.l0]) ?_
    have hlen : L.length = pre.length + t.enc.length + 1 + post.length := by rw [hl]; simp [Tm.enc]; omega
    have hget : L.getD (pre.length + t.enc.length) zM = ⟨2, 0⟩ := by
      rw [hl]
      simp only [Tm.enc, List.append_assoc, List.singleton_append]
      rw [← List.append_assoc]
      have := getD_at zM (pre ++ t.enc) ⟨2, 0⟩ post
      rwa [List.length_append] at this
    have hstl : (st ++ [t.val w]).length = st.length + 1 := by simp
    rw [rdM, hget, w64s (i := pre.length + t.enc.length) (by omega), hstl, w64 (x := ((st.length + 1 : Nat) : Int) - 1) (by omega) (by omega), show ((st.length + 1 : Nat) : Int) - 1 = (st.length : Int) by omega, Int.toNat_natCast, rdB, getD_last]
    refine ev_pos (by omega) ?_
    refine ev_pos (by omega) ?_
    refine ev_pos (by omega) ?_
    refine ev_neg (by decide) ?_
    refine ev_neg (by decide) ?_
    refine ev_pos rfl ?_
    refine ev_pos (by omega) ?_
    refine ev_pos (by omega) ?_
    rw [show (st ++ [t.val w]).set st.length (!t.val w) = st ++ [!t.val w] by simp]
    simpa [Tm.enc, Tm.val, Nat.add_assoc] using h
  | bin c a b iha ihb =>
    intro pre post st ht hl hs h1000 h
    obtain ⟨hc, ha, hb⟩ := ht
    have hla := a.enc_pos
    refine iha pre (b.enc ++ ⟨c, 0⟩ :: post) st ha (by rw [hl]; simp [Tm.enc]) hs h1000 ?_
    rw [← List.length_append]
    refine ihb (pre ++ a.enc) (⟨c, 0⟩ :: post) (st ++ [a.val w]) hb (by rw [hl]; simp [Tm.enc]) (by simp; omega) h1000 ?_
    refine Ev.step (fun k => by rw [impl_holds.l0]) ?_
    have hlen : L.length = pre.length + a.enc.length + b.enc.length + 1 + post.length := by rw [hl]; simp [Tm.enc]; omega
    have hget : L.getD ((pre ++ a.enc).length + b.enc.length) zM = ⟨c, 0⟩ := by
      rw [hl]
      simp only [Tm.enc, List.append_assoc, List.singleton_append]
      rw [← List.append_assoc, ← List.append_assoc]
      have := getD_at zM ((pre ++ a.enc) ++ b.enc) ⟨c, 0⟩ post
      rwa [List.length_append (bs := b.enc)] at this
    have hpl : (pre ++ a.enc).length = pre.length + a.enc.length := by simp
    have hstl : (st ++ [a.val w] ++ [b.val w]).length = st.length + 2 := by simp
    have g1 : (st ++ [a.val w] ++ [b.val w]).getD (st.length + 1) false = b.val w := by
      have := getD_last false (st ++ [a.val w]) (b.val w)
      rwa [List.length_append] at this
    have g0 : (st ++ [a.val w] ++ [b.val w]).getD st.length false = a.val w := by
      rw [List.append_assoc]
      exact getD_at false st (a.val w) [b.val w]
    have ht : (st ++ [a.val w] ++ [b.val w]).take (st.length + 1) = st ++ [a.val w] := by
      rw [show st.length + 1 = (st ++ [a.val w]).length by simp, List.take_left]
    have hset : ∀ v : Bool, (st ++ [a.val w]).set st.length v = st ++ [v] := fun v => by simp
    rw [rdM, hget, w64s (i := (pre ++ a.enc).length + b.enc.length) (by omega), hstl, w64 (x := ((st.length + 2 : Nat) : Int) - 1) (by omega) (by omega), show ((st.length + 2 : Nat) : Int) - 1 = ((st.length + 1 : Nat) : Int) by omega,
      w64 (x := ((st.length + 1 : Nat) : Int) - 1) (by omega) (by omega), show ((st.length + 1 : Nat) : Int) - 1 = (st.length : Int) by omega, Int.toNat_natCast, Int.toNat_natCast, rdB, rdB, g1, g0, ht]
    refine ev_pos (by omega) ?_
    refine ev_pos (by omega) ?_
    refine ev_pos (by omega) ?_
    refine ev_neg (by dsimp only; omega) ?_
    refine ev_neg (by dsimp only; omega) ?_
    refine ev_neg (by dsimp only; omega) ?_
    refine ev_pos (by omega) ?_
    refine ev_pos (by omega) ?_
    refine ev_pos (by omega) ?_
    refine ev_pos (by omega) ?_
    refine ev_pos (by omega) ?_
    refine ev_bindc rfl ?_
    have hyl : (st ++ [a.val w]).length = st.length + 1 := by simp
    rw [hyl, hset, hset, hset, hset]
    have fin : ∀ v : Bool, v = op2 c (a.val w) (b.val w) → Ev (fun k => impl_holds.l0 k (w : Int) (st ++ [v]) L (L.length : Int) (((pre ++ a.enc).length + b.enc.length + 1 : Nat) : Int)) r := fun v e => by
      rw [e]
      have e2 : (pre ++ a.enc).length + b.enc.length + 1 = pre.length + (Tm.bin c a b).enc.length := by simp [Tm.enc]; omega
      rw [e2]
      exact h
    rcases hc with rfl | rfl | rfl
    · refine ev_pos rfl ?_
      by_cases hv : a.val w = true
      · refine ev_pos hv ?_
        refine ev_pos (by omega) ?_
        exact fin _ (by simp [op2, hv])
      · refine ev_neg hv ?_
        refine ev_pos (by omega) ?_
        exact fin _ (by simp [op2, hv])
    · refine ev_neg (by decide) ?_
      refine ev_pos rfl ?_
      by_cases hv : a.val w = true
      · refine ev_pos hv ?_
        refine ev_pos (by omega) ?_
        exact fin _ (by simp [op2, hv])
      · refine ev_neg hv ?_
        refine ev_pos (by omega) ?_
        exact fin _ (by simp [op2, hv])
    · refine ev_neg (by decide) ?_
      refine ev_neg (by decide) ?_
      refine ev_pos (by omega) ?_
      exact fin _ (by simp [op2])
theorem impl_holdsE (n : Int) (hn : n ≤ 4) (w : Nat) (hw : w < 16) (t : Tm) (ht : t.Ok n) (hl : t.enc.length ≤ 1000) : Ev (fun k => impl_holds.f k t.enc (w : Int)) (t.val w) := by
  unfold impl_holds.f
  refine impl_push n hn w hw t.enc (by omega) (t.val w) t [] [] [] ht (by simp) (by simp) hl ?_
  refine Ev.step (fun k => by rw [impl_holds.l0]) ?_
  refine ev_neg (by simp) ?_
  refine ev_pos (by simp) (ev_ret ?_)
  simp [rdOf]

/-! ### the reference's way: from the last mark -/
end Go.Proofs.Ytbhmippoeimliaa.M

/- Tables: the worlds for which something holds, as a number; the program's tableBy makes it, whatever function value it is handed. -/
set_option linter.unusedVariables false
set_option linter.unusedSimpArgs false
namespace Go.Proofs.Ytbhmippoeimliaa.M
open Go Go.RowKit Go.Proofs.YtbhmippoeimliaaW.PrintWords Go.Proofs.Ytbhmippoeimliaa.P

/-- The table of all worlds below n for which p holds. -/
def tabN (p : Nat → Bool) : Nat → Nat
  | 0 => 0
  | n + 1 => tabN p n + if p n then pw n else 0
theorem tabN_lt (p : Nat → Bool) (n : Nat) : tabN p n < pw n := by
  induction n with
  | zero => exact pw_pos 0
  | succ n ih =>
    have : pw (n + 1) = pw n + pw n := by unfold pw; omega
    simp only [tabN]
    split <;> omega
theorem or_pw (p : Nat → Bool) (j : Nat) (hj : j ≤ 16) : Go.bits .or .i64 (tabN p j : Int) (pw j : Int) = ((tabN p j + pw j : Nat) : Int) := by
  have h1 := tabN_lt p j
  have h2 := pw16 hj
  have h := (bits_nat .i64 63 (by decide) wraps_i64 (tabN p j) (pw j) (by omega) (by omega)).2
  rw [h]
  have e := Nat.two_pow_add_eq_or_of_lt (i := j) h1 1
  rw [Nat.mul_one] at e
  rw [Nat.or_comm]
  show ((2 ^ j ||| tabN p j : Nat) : Int) = _
  rw [← e, Nat.add_comm]
  rfl
theorem tab_yes (p : Nat → Bool) (j : Nat) (hj : j ≤ 16) (h : p j = true) : Value.int .i64 (Go.bits .or .i64 (tabN p j : Int) (pw j : Int)) = .int .i64 (tabN p (j + 1) : Nat) := by
  rw [or_pw p j hj]
  simp [tabN, h]
theorem tab_no (p : Nat → Bool) (j : Nat) (h : p j = false) : Value.int .i64 (tabN p j : Nat) = .int .i64 (tabN p (j + 1) : Nat) := by
  simp [tabN, h]
end Go.Proofs.Ytbhmippoeimliaa.M

/- Claims and stories: both ClaimOk, both StoryOk, and whether a claim may be made in a world. -/
set_option linter.unusedVariables false
set_option linter.unusedSimpArgs false
namespace Go.Proofs.Ytbhmippoeimliaa.M
open Go Go.RowKit Go.Proofs.YtbhmippoeimliaaW.PrintWords Go.Proofs.Ytbhmippoeimliaa.P
abbrev Cl := S83
abbrev zC : Cl := z83
theorem rdC (s : List Cl) (i : Nat) : rd_T83 s (i : Int) = s.getD i zC := by simp [rd_T83]

/-! ### whether a row of marks holds in a world -/
def runL (w : Nat) : List Bool → List Mk → List Bool
  | st, [] => st
  | st, m :: l => runL w (if m.f0 = 0 then (bitN w m.f1.toNat == 1) :: st else if m.f0 = 1 then decide (m.f1 ≤ (heads w : Int)) :: st else if m.f0 = 2 then (!st.headD false) :: st.tail else op2 m.f0 (st.tail.headD false) (st.headD false) :: st.tail.tail) l
theorem runL_enc (n : Int) (w : Nat) (t : Tm) : ∀ (st : List Bool) (l : List Mk), t.Ok n → runL w st (t.enc ++ l) = runL w (t.val w :: st) l := by
  induction t with
  | leaf m =>
    intro st l h
    simp only [Tm.enc, List.singleton_append, runL, Tm.val]
    by_cases h0 : m.f0 = 0
    · rw [if_pos h0, if_pos h0]
    · rw [if_neg h0, if_neg h0, if_pos (by rcases h with h | h <;> omega)]
  | neg t ih =>
    intro st l h
    simp only [Tm.enc, List.append_assoc, List.singleton_append]
    rw [ih st _ h]
    simp [runL, Tm.val]
  | bin c a b iha ihb =>
    intro st l h
    obtain ⟨hc, ha, hb⟩ := h
    simp only [Tm.enc, List.append_assoc, List.singleton_append]
    rw [iha st _ ha, ihb _ _ hb]
    simp only [runL, Tm.val]
    rw [if_neg (by omega), if_neg (by omega), if_neg (by omega)]
    rfl
/-- A row of marks holds in a world. -/
def holdB (l : List Mk) (w : Nat) : Bool := (runL w [] l).headD false
theorem holdB_enc (n : Int) (w : Nat) (t : Tm) (h : t.Ok n) : holdB t.enc w = t.val w := by
  unfold holdB
  have := runL_enc n w t [] [] h
  rw [List.append_nil] at this
  rw [this]
  rfl
theorem impl_holdsT {n : Int} {l : List Mk} (h : TermP n l) (w : Nat) (hw : w < 16) : Ev (fun k => impl_holds.f k l (w : Int)) (holdB l w) := by
  obtain ⟨t, ht, rfl⟩ := h.tree
  rw [holdB_enc n w t ht]
  exact impl_holdsE n h.1.2 w hw t ht (by have := h.2.1; omega)
/-- The person may say the row of marks in a world. -/
def mayB (who : Nat) (l : List Mk) (w : Nat) : Bool := (bitN w who == 1) == holdB l w
theorem impl_mayE {n : Int} {l : List Mk} (h : TermP n l) (who : Int) (h0 : 0 ≤ who) (h4 : who < 4) (w : Nat) (hw : w < 16) : Ev (fun k => impl_maySay.f k who l (w : Int)) (mayB who.toNat l w) := by
  unfold impl_maySay.f
  refine ev_bind (impl_holdsT h w hw) ?_
  refine ev_pos h0 (ev_ret ?_)
  rw [show who = ((who.toNat : Nat) : Int) by omega, shr_and1 w who.toNat (by omega) (by omega), beq_one]
  unfold mayB
  rw [Int.toNat_natCast, BEq.comm]
/-! ### claims and stories -/
def ClaimP (n who : Int) (l : List Mk) : Prop := 0 ≤ who ∧ who < n ∧ TermP n l ∧ l.length ≤ 13
instance (n who : Int) (l : List Mk) : Decidable (ClaimP n who l) := by unfold ClaimP; infer_instance
theorem impl_claimOk (n who : Int) (l : List Mk) : Tells (fun k => impl_ClaimOk.f k n who l) (ClaimP n who l) := by
  unfold impl_ClaimOk.f
  refine Tells.bindc (peopleOkT n) ?_
  refine Tells.ite (fun h => ?_) (fun h => Tells.no fun h' => h (decide_eq_true h'.2.2.1.1))
  refine Tells.ite (fun h0 => ?_) (fun h0 => Tells.no fun h' => h0 h'.1)
  refine Tells.ite (fun h1 => ?_) (fun h1 => Tells.no fun h' => h1 h'.2.1)
  obtain ⟨b, hb, hi⟩ := impl_termOk n l
  refine Tells.bind hb ?_
  refine Tells.ite (fun h2 => Tells.dec ?_) (fun h2 => Tells.no fun h' => h2 (hi.2 h'.2.2.1))
  exact ⟨fun h => ⟨h0, h1, hi.1 h2, by omega⟩, fun h => by have := h.2.2.2; omega⟩
def StoryP (n : Int) (s : List Cl) : Prop := (∀ i, i < s.length → ClaimP n (s.getD i zC).f0 (s.getD i zC).f1) ∧ (1 ≤ n ∧ n ≤ 4) ∧ s.length ≤ 6
end Go.Proofs.Ytbhmippoeimliaa.M

/- The reference's TermOk tells whether a row is a term. -/
set_option linter.unusedVariables false
set_option linter.unusedSimpArgs false
namespace Go.Proofs.Ytbhmippoeimliaa.M
open Go Go.RowKit Go.Proofs.YtbhmippoeimliaaW.PrintWords Go.Proofs.Ytbhmippoeimliaa.P
theorem l1InT (a b c : Int) : spec_l1In.f a b c = some (decide (b ≤ a ∧ a ≤ c)) := by
  unfold spec_l1In.f
  by_cases h : a ≥ b
  · rw [if_pos h]
    simp [h]
  · rw [if_neg h]
    simp
    intro h'
    omega
/-- No mark is beyond the machine's whole numbers. -/
def M64 (s : List Mk) : Prop := ∀ i : Nat, (s.getD i zM).f1 ≤ 9223372036854775807
theorem spec_termOk_l (n : Int) (hb : n ≤ 9223372036854775807) (s : List Mk) (h64 : M64 s) (hs : s.length < 4611686018427387904) : ∀ d i p : Nat, i + d = s.length → p ≤ i →
    Tells (fun k => spec_TermOk.l0 k n s (p : Int) (i : Int)) (foldP n p (s.drop i) = some 1 ∧ (1 ≤ n ∧ n ≤ 4) ∧ s.length ≤ 15) := by
  intro d
  induction d with
  | zero =>
    intro i p hi hp
    refine Tells.step (fun k => by rw [spec_TermOk.l0]) ?_
    refine Tells.neg (by omega) ?_
    rw [List.drop_eq_nil_of_le (by omega)]
    refine Tells.bindc (l1InT n 1 4) ?_
    simp only [foldP, Option.some.injEq]
    refine Tells.ite (fun h => ?_) (fun h => Tells.no fun h' => h (decide_eq_true h'.2.1))
    have hn := of_decide_eq_true h
    refine Tells.ite (fun h1 => Tells.dec ?_) (fun h1 => Tells.no fun h' => h1 (by omega))
    exact ⟨fun h => ⟨by omega, hn, by omega⟩, fun h => by omega⟩
  | succ d ih =>
    intro i p hi hp
    refine Tells.step (fun k => by rw [spec_TermOk.l0]) ?_
    rw [foldP_drop n p s i (by omega), rdM]
    refine Tells.pos (by omega) ?_
    refine Tells.pos (by omega) ?_
    have hm64 := h64 i
    generalize hm : s.getD i zM = m at hm64
    have go : ∀ q, q ≤ i + 1 → stepP n p m = some q → Tells (fun k => spec_TermOk.l0 k n s (q : Int) ((i + 1 : Nat) : Int)) ((stepP n p m).bind (fun q => foldP n q (s.drop (i + 1))) = some 1 ∧ (1 ≤ n ∧ n ≤ 4) ∧ s.length ≤ 15) := fun q hq e => by
      rw [e]
      exact ih (i + 1) q (by omega) hq
    have no : stepP n p m = none → Tells (fun _ => some false) ((stepP n p m).bind (fun q => foldP n q (s.drop (i + 1))) = some 1 ∧ (1 ≤ n ∧ n ≤ 4) ∧ s.length ≤ 15) := fun e => by
      rw [e]
      exact Tells.no (by simp)
    have j3 : m.f0 ≠ 0 → m.f0 ≠ 1 → ¬ (m.f0 = 2 ∧ m.f1 = 0 ∧ 1 ≤ p) → Tells (fun k => spec_TermOk.j3 k n s (p : Int) (i : Int) false) ((stepP n p m).bind (fun q => foldP n q (s.drop (i + 1))) = some 1 ∧ (1 ≤ n ∧ n ≤ 4) ∧ s.length ≤ 15) := fun h0 h1 h2 => by
      refine Tells.step (fun k => by rw [spec_TermOk.j3]) ?_
      rw [rdM, hm, w64s (by omega)]
      refine Tells.neg (by decide) ?_
      refine Tells.pos (by omega) ?_
      refine Tells.pos (by omega) ?_
      refine Tells.bindc (l1InT m.f0 3 5) ?_
      have bad : ¬ (3 ≤ m.f0 ∧ m.f0 ≤ 5 ∧ m.f1 = 0 ∧ 2 ≤ p) → stepP n p m = none := fun hb => by
        unfold stepP
        rw [if_neg h0, if_neg h1]
        by_cases h2' : m.f0 = 2
        · rw [if_pos h2', if_neg (fun h => h2 ⟨h2', h.1, h.2⟩)]
        · rw [if_neg h2']
          by_cases h3 : 3 ≤ m.f0 ∧ m.f0 ≤ 5
          · rw [if_pos h3, if_neg (fun h => hb ⟨h3.1, h3.2, h.1, h.2⟩)]
          · rw [if_neg h3]
      refine Tells.ite (fun h3 => ?_) (fun h3 => no (bad fun h => h3 (decide_eq_true ⟨h.1, h.2.1⟩)))
      have h3 := of_decide_eq_true h3
      refine Tells.ite (fun h4 => ?_) (fun h4 => no (bad fun h => h4 h.2.2.1))
      refine Tells.ite (fun h5 => ?_) (fun h5 => no (bad fun h => h5 (by omega)))
      rw [w64 (x := (p : Int) - 1) (by omega) (by omega), show (p : Int) - 1 = ((p - 1 : Nat) : Int) by omega]
      exact go (p - 1) (by omega) (by unfold stepP; rw [if_neg h0, if_neg h1, if_neg (by omega), if_pos h3, if_pos ⟨h4, by omega⟩])
    have j2 : m.f0 ≠ 0 → ¬ (m.f0 = 1 ∧ 0 ≤ m.f1 ∧ m.f1 ≤ n + 1) → Tells (fun k => spec_TermOk.j2 k n s (p : Int) (i : Int) false) ((stepP n p m).bind (fun q => foldP n q (s.drop (i + 1))) = some 1 ∧ (1 ≤ n ∧ n ≤ 4) ∧ s.length ≤ 15) := fun h0 h1 => by
      refine Tells.step (fun k => by rw [spec_TermOk.j2]) ?_
      rw [rdM, hm]
      refine Tells.neg (by decide) ?_
      refine Tells.pos (by omega) ?_
      refine Tells.pos (by omega) ?_
      by_cases h11 : m.f0 = 1
      · have e : stepP n p m = none := by
          unfold stepP
          rw [if_neg h0, if_pos h11, if_neg (fun h => h1 ⟨h11, h⟩)]
        refine Tells.neg (by simp [h11]) ?_
        refine Tells.step (fun k => by rw [spec_TermOk.j3]) ?_
        rw [rdM, hm]
        refine Tells.neg (by decide) ?_
        refine Tells.pos (by omega) ?_
        refine Tells.pos (by omega) ?_
        refine Tells.bindc (l1InT m.f0 3 5) ?_
        refine Tells.neg (fun h => by have := of_decide_eq_true h; omega) ?_
        exact no e
      refine Tells.ite (fun h2 => ?_) (fun h2 => j3 h0 h11 fun h => h2 (by simp [h.1, h.2.1]))
      have h2 : m.f0 = 2 ∧ m.f1 = 0 := by simpa using h2
      by_cases hp1 : (p : Int) ≥ 1
      · rw [decide_eq_true hp1]
        refine Tells.step (fun k => by rw [spec_TermOk.j3]) ?_
        rw [w64s (by omega)]
        refine Tells.pos rfl ?_
        exact go p (by omega) (by unfold stepP; rw [if_neg h0, if_neg h11, if_pos h2.1, if_pos ⟨h2.2, by omega⟩])
      · rw [decide_eq_false hp1]
        exact j3 h0 h11 fun h => hp1 (by omega)
    have j2t : m.f0 = 1 → 0 ≤ m.f1 → m.f1 ≤ n + 1 → Tells (fun k => spec_TermOk.j2 k n s (p : Int) (i : Int) true) ((stepP n p m).bind (fun q => foldP n q (s.drop (i + 1))) = some 1 ∧ (1 ≤ n ∧ n ≤ 4) ∧ s.length ≤ 15) := fun h0 h1 h2 => by
      refine Tells.step (fun k => by rw [spec_TermOk.j2]) ?_
      rw [w64s (by omega), w64s (by omega)]
      refine Tells.pos rfl ?_
      exact go (p + 1) (by omega) (by unfold stepP; rw [if_neg (by omega), if_pos h0, if_pos ⟨h1, h2⟩])
    have j1 : ¬ (m.f0 = 0 ∧ 0 ≤ m.f1 ∧ m.f1 < n) → Tells (fun k => spec_TermOk.j1 k n s (p : Int) (i : Int) false) ((stepP n p m).bind (fun q => foldP n q (s.drop (i + 1))) = some 1 ∧ (1 ≤ n ∧ n ≤ 4) ∧ s.length ≤ 15) := fun h0 => by
      refine Tells.step (fun k => by rw [spec_TermOk.j1]) ?_
      rw [rdM, hm]
      refine Tells.neg (by decide) ?_
      refine Tells.pos (by omega) ?_
      refine Tells.pos (by omega) ?_
      by_cases h00 : m.f0 = 0
      · have e : stepP n p m = none := by
          unfold stepP
          rw [if_pos h00, if_neg (fun h => h0 ⟨h00, h⟩)]
        refine Tells.neg (by omega) ?_
        refine Tells.step (fun k => by rw [spec_TermOk.j2]) ?_
        rw [rdM, hm]
        refine Tells.neg (by decide) ?_
        refine Tells.pos (by omega) ?_
        refine Tells.pos (by omega) ?_
        refine Tells.neg (by simp [h00]) ?_
        refine Tells.step (fun k => by rw [spec_TermOk.j3]) ?_
        rw [rdM, hm]
        refine Tells.neg (by decide) ?_
        refine Tells.pos (by omega) ?_
        refine Tells.pos (by omega) ?_
        refine Tells.bindc (l1InT m.f0 3 5) ?_
        refine Tells.neg (fun h => by have := of_decide_eq_true h; omega) ?_
        exact no e
      refine Tells.ite (fun h1 => ?_) (fun h1 => j2 h00 fun h => h1 h.1)
      refine Tells.ite (fun h2 => ?_) (fun h2 => j2 h00 fun h => h2 h.2.1)
      refine Tells.ite (fun h3 => j2t h1 h2 (by omega)) (fun h3 => ?_)
      by_cases h4 : wrap64 (m.f1 - 1) = n
      · rw [show (wrap64 (m.f1 - 1) == n) = true by simp [h4]]
        exact j2t h1 h2 (by rw [w64 (by omega) (by omega)] at h4; omega)
      · rw [show (wrap64 (m.f1 - 1) == n) = false by simp [h4]]
        exact j2 h00 fun h => h4 (by rw [w64 (by omega) (by omega)]; omega)
    refine Tells.ite (fun h0 => ?_) (fun h0 => j1 fun h => h0 h.1)
    refine Tells.ite (fun h1 => ?_) (fun h1 => j1 fun h => h1 h.2.1)
    by_cases h2 : m.f1 < n
    · rw [decide_eq_true h2]
      refine Tells.step (fun k => by rw [spec_TermOk.j1]) ?_
      rw [w64s (by omega), w64s (by omega)]
      refine Tells.pos rfl ?_
      exact go (p + 1) (by omega) (by unfold stepP; rw [if_pos h0, if_pos ⟨h1, h2⟩])
    · rw [decide_eq_false h2]
      exact j1 fun h => h2 h.2.2
theorem spec_termOk (n : Int) (hb : n ≤ 9223372036854775807) (s : List Mk) (h64 : M64 s) (hs : s.length < 4611686018427387904) : Tells (fun k => spec_TermOk.f k n s) (TermP n s) := by
  unfold spec_TermOk.f
  refine (spec_termOk_l n hb s h64 hs s.length 0 0 (by omega) (by omega)).iff ?_
  rw [List.drop_zero]
  exact ⟨fun h => ⟨h.2.1, h.2.2, h.1⟩, fun h => ⟨h.2.2, h.1, h.2.1⟩⟩
end Go.Proofs.Ytbhmippoeimliaa.M

/- The reference's way, from the last mark, tells the tree's value. -/
set_option linter.unusedVariables false
set_option linter.unusedSimpArgs false
namespace Go.Proofs.Ytbhmippoeimliaa.M
open Go Go.RowKit Go.Proofs.YtbhmippoeimliaaW.PrintWords Go.Proofs.Ytbhmippoeimliaa.P
theorem spec_headsE (w : Nat) (hw : w < 16) : Ev (fun k => spec_l1Heads.f k (w : Int)) ((heads w : Nat) : Int) := by
  have h : ∀ w : Fin 16, spec_l1Heads.f 10 (w.val : Int) = some ((heads w.val : Nat) : Int) := by decide +kernel
  exact Ev.of (fun k => spec_l1Heads.mono (w : Int) k) (h ⟨w, hw⟩)
theorem starts_l (n : Int) (L : List Mk) (hL : L.length ≤ 1000) (r : Int) (t : Tm) : ∀ (pre post : List Mk) (d : Nat), t.Ok n → L = pre ++ t.enc ++ post → d ≤ 1000000 - t.enc.length →
    Ev (fun k => spec_l2Starts.l0 k L (d : Int) ((pre.length : Int) - 1)) r → Ev (fun k => spec_l2Starts.l0 k L ((d + 1 : Nat) : Int) (((pre.length + t.enc.length : Nat) : Int) - 1)) r := by
  induction t with
  | leaf m =>
    intro pre post d ht hl hd h
    refine Ev.step (fun k => by rw [spec_l2Starts.l0]) ?_
    have hlen : L.length = pre.length + 1 + post.length := by rw [hl]; simp [Tm.enc]; omega
    have hget : L.getD pre.length zM = m := by
      rw [hl]
      simp only [Tm.enc, List.append_assoc, List.singleton_append]
      exact getD_at zM pre m post
    have e : ((pre.length + (Tm.leaf m).enc.length : Nat) : Int) - 1 = (pre.length : Int) := by simp [Tm.enc]
    simp only [Tm.enc, List.length_singleton] at hd
    rw [e, rdM, hget, w64 (x := ((d + 1 : Nat) : Int) - 1) (by omega) (by omega), w64 (x := (pre.length : Int) - 1) (by omega) (by omega), show ((d + 1 : Nat) : Int) - 1 = (d : Int) by omega]
    refine ev_pos (by omega) ?_
    refine ev_pos (by omega) ?_
    refine ev_pos (by omega) ?_
    refine ev_pos (by rcases ht with h | h <;> omega) ?_
    exact h
  | neg t ih =>
    intro pre post d ht hl hd h
    refine Ev.step (fun k => by rw [spec_l2Starts.l0]) ?_
    have hlen : L.length = pre.length + t.enc.length + 1 + post.length := by rw [hl]; simp [Tm.enc]; omega
    have hget : L.getD (pre.length + t.enc.length) zM = ⟨2, 0⟩ := by
      rw [hl]
      simp only [Tm.enc, List.append_assoc, List.singleton_append]
      rw [← List.append_assoc]
      have := getD_at zM (pre ++ t.enc) ⟨2, 0⟩ post
      rwa [List.length_append] at this
    have e : ((pre.length + (Tm.neg t).enc.length : Nat) : Int) - 1 = ((pre.length + t.enc.length : Nat) : Int) := by simp [Tm.enc]; omega
    simp only [Tm.enc, List.length_append, List.length_singleton] at hd
    rw [e, rdM, hget, w64 (x := ((pre.length + t.enc.length : Nat) : Int) - 1) (by omega) (by omega)]
    refine ev_pos (by omega) ?_
    refine ev_pos (by omega) ?_
    refine ev_pos (by omega) ?_
    refine ev_neg (by decide) ?_
    refine ev_neg (by decide) ?_
    exact ih pre (⟨2, 0⟩ :: post) d ht (by rw [hl]; simp [Tm.enc]) (by omega) h
  | bin c a b iha ihb =>
    intro pre post d ht hl hd h
    obtain ⟨hc, ha, hb⟩ := ht
    refine Ev.step (fun k => by rw [spec_l2Starts.l0]) ?_
    have hlen : L.length = pre.length + a.enc.length + b.enc.length + 1 + post.length := by rw [hl]; simp [Tm.enc]; omega
    have hget : L.getD (pre.length + a.enc.length + b.enc.length) zM = ⟨c, 0⟩ := by
      rw [hl]
      simp only [Tm.enc, List.append_assoc, List.singleton_append]
      rw [← List.append_assoc, ← List.append_assoc]
      have := getD_at zM ((pre ++ a.enc) ++ b.enc) ⟨c, 0⟩ post
      rwa [List.length_append, List.length_append] at this
    have e : ((pre.length + (Tm.bin c a b).enc.length : Nat) : Int) - 1 = ((pre.length + a.enc.length + b.enc.length : Nat) : Int) := by simp [Tm.enc]; omega
    simp only [Tm.enc, List.length_append, List.length_singleton] at hd
    rw [e, rdM, hget, w64 (x := ((pre.length + a.enc.length + b.enc.length : Nat) : Int) - 1) (by omega) (by omega), w64s (by omega)]
    refine ev_pos (by omega) ?_
    refine ev_pos (by omega) ?_
    refine ev_pos (by omega) ?_
    refine ev_neg (by dsimp only; omega) ?_
    refine ev_pos (by dsimp only; omega) ?_
    have h2 := iha pre (b.enc ++ ⟨c, 0⟩ :: post) d ha (by rw [hl]; simp [Tm.enc]) (by omega) h
    rw [← List.length_append] at h2 ⊢
    exact ihb (pre ++ a.enc) (⟨c, 0⟩ :: post) (d + 1) hb (by rw [hl]; simp [Tm.enc]) (by omega) h2
theorem spec_holdsE (n : Int) (hn : n ≤ 4) (w : Nat) (hw : w < 16) (t : Tm) : t.Ok n → t.enc.length ≤ 1000 → Ev (fun k => spec_l3Holds.f k t.enc (w : Int)) (t.val w) := by
  induction t with
  | leaf m =>
    intro ht hl
    refine Ev.step (fun k => by rw [spec_l3Holds.f]) ?_
    have e : wrap64 (((Tm.leaf m).enc.length : Int) - 1) = ((0 : Nat) : Int) := by simp [Tm.enc, wrap64]
    have g : (Tm.leaf m).enc.getD 0 zM = m := rfl
    rw [e, rdM, g]
    have hlen : (Tm.leaf m).enc.length = 1 := rfl
    refine ev_pos (by omega) ?_
    refine ev_pos (by omega) ?_
    simp only [Tm.val]
    rcases ht with ⟨h0, h1, h2⟩ | ⟨h0, h1, h2⟩
    · refine ev_pos h0 ?_
      refine ev_pos h1 (ev_ret ?_)
      rw [if_pos h0, show m.f1 = ((m.f1.toNat : Nat) : Int) by omega, shr_tmod2 w m.f1.toNat (by omega), beq_one, Int.toNat_natCast]
    · refine ev_neg (by omega) ?_
      refine ev_pos h0 ?_
      refine ev_bind (spec_headsE w hw) (ev_ret ?_)
      rw [if_neg (by omega)]
  | neg t ih =>
    intro ht hl
    refine Ev.step (fun k => by rw [spec_l3Holds.f]) ?_
    have hlen : (Tm.neg t).enc.length = t.enc.length + 1 := by simp [Tm.enc]
    have g : (Tm.neg t).enc.getD t.enc.length zM = ⟨2, 0⟩ := getD_last zM t.enc ⟨2, 0⟩
    rw [hlen, w64 (x := ((t.enc.length + 1 : Nat) : Int) - 1) (by omega) (by omega), show ((t.enc.length + 1 : Nat) : Int) - 1 = (t.enc.length : Int) by omega, rdM, g, Int.toNat_natCast]
    have tk : (Tm.neg t).enc.take t.enc.length = t.enc := by simp [Tm.enc]
    rw [tk]
    refine ev_pos (by omega) ?_
    refine ev_pos (by omega) ?_
    refine ev_neg (by decide) ?_
    refine ev_neg (by decide) ?_
    refine ev_pos rfl ?_
    refine ev_pos (by omega) ?_
    exact ev_bind (ih ht (by omega)) (ev_ret rfl)
  | bin c a b iha ihb =>
    intro ht hl
    obtain ⟨hc, ha, hb⟩ := ht
    refine Ev.step (fun k => by rw [spec_l3Holds.f]) ?_
    have hbp := b.enc_pos
    have hlen : (Tm.bin c a b).enc.length = a.enc.length + b.enc.length + 1 := by simp [Tm.enc]; omega
    have g : (Tm.bin c a b).enc.getD (a.enc.length + b.enc.length) zM = ⟨c, 0⟩ := by
      have := getD_last zM (a.enc ++ b.enc) ⟨c, 0⟩
      rwa [List.length_append] at this
    rw [hlen, w64 (x := ((a.enc.length + b.enc.length + 1 : Nat) : Int) - 1) (by omega) (by omega), show ((a.enc.length + b.enc.length + 1 : Nat) : Int) - 1 = ((a.enc.length + b.enc.length : Nat) : Int) by omega, rdM, g,
      w64 (x := ((a.enc.length + b.enc.length : Nat) : Int) - 1) (by omega) (by omega), Int.toNat_natCast]
    have tk : (Tm.bin c a b).enc.take (a.enc.length + b.enc.length) = a.enc ++ b.enc := by
      rw [← List.length_append]
      exact List.take_left
    rw [tk]
    refine ev_pos (by omega) ?_
    refine ev_pos (by omega) ?_
    refine ev_neg (by dsimp only; omega) ?_
    refine ev_neg (by dsimp only; omega) ?_
    refine ev_neg (by dsimp only; omega) ?_
    have hst : Ev (fun k => spec_l2Starts.f k (Tm.bin c a b).enc (((a.enc.length + b.enc.length : Nat) : Int) - 1)) (a.enc.length : Int) := by
      unfold spec_l2Starts.f
      refine starts_l n (Tm.bin c a b).enc (by omega) (a.enc.length : Int) b a.enc [⟨c, 0⟩] 0 hb rfl (by omega) ?_
      refine Ev.step (fun k => by rw [spec_l2Starts.l0]) ?_
      refine ev_neg (by omega) (ev_ret ?_)
      rw [w64 (by omega) (by omega)]
      omega
    refine ev_bind hst ?_
    rw [Int.toNat_natCast]
    have tk2 : (Tm.bin c a b).enc.take a.enc.length = a.enc := by simp [Tm.enc]
    rw [tk2, List.drop_left]
    refine ev_pos (by omega) ?_
    refine ev_pos (by omega) ?_
    refine ev_bind (iha ha (by omega)) ?_
    refine ev_pos (by omega) ?_
    refine ev_pos (by omega) ?_
    refine ev_bind (ihb hb (by omega)) ?_
    simp only [Tm.val]
    rcases hc with rfl | rfl | rfl
    · refine ev_pos rfl ?_
      by_cases hv : a.val w = true
      · exact ev_pos hv (ev_ret (by simp [op2, hv]))
      · exact ev_neg hv (ev_ret (by simp [op2, hv]))
    · refine ev_neg (by decide) (ev_pos rfl ?_)
      by_cases hv : a.val w = true
      · exact ev_pos hv (ev_ret (by simp [op2, hv]))
      · exact ev_neg hv (ev_ret (by simp [op2, hv]))
    · refine ev_neg (by decide) (ev_neg (by decide) (ev_ret (by simp [op2])))
end Go.Proofs.Ytbhmippoeimliaa.M

/- The reference's ClaimOk, StoryOk and l4May. -/
set_option linter.unusedVariables false
set_option linter.unusedSimpArgs false
namespace Go.Proofs.Ytbhmippoeimliaa.M
open Go Go.RowKit Go.Proofs.YtbhmippoeimliaaW.PrintWords Go.Proofs.Ytbhmippoeimliaa.P
theorem spec_holdsT {n : Int} {l : List Mk} (h : TermP n l) (w : Nat) (hw : w < 16) : Ev (fun k => spec_l3Holds.f k l (w : Int)) (holdB l w) := by
  obtain ⟨t, ht, rfl⟩ := h.tree
  rw [holdB_enc n w t ht]
  exact spec_holdsE n h.1.2 w hw t ht (by have := h.2.1; omega)
theorem spec_mayE {n : Int} {l : List Mk} (h : TermP n l) (who : Int) (h0 : 0 ≤ who) (h4 : who < 4) (w : Nat) (hw : w < 16) : Ev (fun k => spec_l4May.f k who l (w : Int)) (mayB who.toNat l w) := by
  unfold spec_l4May.f
  refine ev_pos h0 ?_
  refine ev_bind (spec_holdsT h w hw) (ev_ret ?_)
  rw [show who = ((who.toNat : Nat) : Int) by omega, shr_tmod2 w who.toNat (by omega), beq_one]
  unfold mayB
  rw [Int.toNat_natCast]

theorem spec_claimOk (n : Int) (hn : n ≤ 9223372036854775807) (who : Int) (l : List Mk) (h64 : M64 l) (hl : l.length < 4611686018427387904) : Tells (fun k => spec_ClaimOk.f k n who l) (ClaimP n who l) := by
  unfold spec_ClaimOk.f
  refine Tells.ite (fun h0 => ?_) (fun h0 => Tells.no fun h' => h0 h'.1)
  refine Tells.ite (fun h1 => ?_) (fun h1 => Tells.no fun h' => h1 h'.2.1)
  obtain ⟨b, hb, hi⟩ := spec_termOk n hn l h64 hl
  refine Tells.bind hb ?_
  refine Tells.ite (fun h2 => Tells.dec ?_) (fun h2 => Tells.no fun h' => h2 (hi.2 h'.2.2.1))
  exact ⟨fun h => ⟨h0, h1, hi.1 h2, by omega⟩, fun h => by have := h.2.2.2; omega⟩
/-- Nothing in the story is beyond the machine's numbers. -/
def S64 (s : List Cl) : Prop := s.length < 4611686018427387904 ∧ ∀ i, M64 (s.getD i zC).f1 ∧ (s.getD i zC).f1.length < 4611686018427387904
end Go.Proofs.Ytbhmippoeimliaa.M

/- Drawn terms: each draw ends; they are short. -/
set_option linter.unusedVariables false
set_option linter.unusedSimpArgs false
namespace Go.Proofs.Ytbhmippoeimliaa.M
open Go Go.RowKit Go.Proofs.YtbhmippoeimliaaW.PrintWords Go.Proofs.Ytbhmippoeimliaa.P
/-- Every mark's number is one of the machine's. -/
def SmallL (l : List Mk) : Prop := ∀ x ∈ l, x.f1 ≤ 9223372036854775807
theorem SmallL.M64 {l : List Mk} (h : SmallL l) : M64 l := fun i => by
  rcases Nat.lt_or_ge i l.length with hi | hi
  · rw [List.getD_eq_getElem?_getD, List.getElem?_eq_getElem hi]
    exact h _ (List.getElem_mem hi)
  · rw [List.getD_eq_getElem?_getD, List.getElem?_eq_none hi]
    show zM.f1 ≤ _
    decide
theorem SmallL.app {l m : List Mk} (h : SmallL l) (h' : SmallL m) : SmallL (l ++ m) := fun x hx => by
  rcases List.mem_append.1 hx with hx | hx
  · exact h x hx
  · exact h' x hx
theorem SmallL.one {x : Mk} (h : x.f1 ≤ 9223372036854775807) : SmallL [x] := fun y hy => by
  rw [List.mem_singleton.1 hy]
  exact h
theorem oddE (b : List Int) (hb : Bytes b) (p : Nat) (hp : p ≤ 100000) (n : Int) : ∃ o : Bool, ∃ q : Nat, Ev (fun k => spec_l20Rd_odd.f k b (p : Int) n) (o, (q : Int)) ∧ q ≤ p + 1 := by
  unfold spec_l20Rd_odd.f
  by_cases h : n > 0
  · obtain ⟨r, e, _⟩ := pickE b hb p (by omega) n
    exact ⟨_, p + 1, ev_pos h (ev_bind e (ev_ret rfl)), Nat.le_refl _⟩
  · exact ⟨false, p, ev_neg h (ev_ret rfl), by omega⟩
/-- Of a pick only that it is a number of the machine. -/
theorem pickB (b : List Int) (hb : Bytes b) (p : Nat) (hp : p ≤ 100000) (n : Int) (hn : n ≤ 9223372036854775807) : ∃ r : Nat, Ev (fun k => spec_l20Rd_pick.f k b (p : Int) n) ((r : Int), ((p + 1 : Nat) : Int)) ∧ (1 ≤ n → (r : Int) < n) ∧ (r : Int) ≤ 9223372036854775807 := by
  obtain ⟨r, e, h1, h2⟩ := pickE b hb p (by omega) n
  refine ⟨r, e, h1, ?_⟩
  by_cases h : 1 ≤ n
  · have := h1 h
    omega
  · have := h2 (by omega)
    omega
theorem term_j2 (b : List Int) (hb : Bytes b) (d : Int) (t : List Mk) (p : Nat) (hp : p ≤ 10000) (h1 : 1 ≤ t.length) (h2 : t.length ≤ 4096) (hs : SmallL t) :
    ∃ (s : List Mk) (q : Nat), Ev (fun k => spec_l20Term.j2 k d t b (p : Int)) (s, (q : Int)) ∧ s.length ≤ 4097 ∧ SmallL s ∧ q ≤ p + 3 := by
  obtain ⟨o, q, eo, hq⟩ := oddE b hb p (by omega) d
  cases o with
  | false =>
    refine ⟨t, q, Ev.step (fun k => by rw [spec_l20Term.j2]) ?_, by omega, hs, by omega⟩
    exact ev_bind eo (ev_neg (by simp) (ev_ret rfl))
  | true =>
    obtain ⟨r, e, _⟩ := pickE b hb q (by omega) 3
    by_cases h0 : r = 0
    · refine ⟨[], q + 1, Ev.step (fun k => by rw [spec_l20Term.j2]) ?_, by simp, fun x hx => by simp at hx, by omega⟩
      exact ev_bind eo (ev_pos rfl (ev_bind e (ev_pos (by simp [h0]) (ev_ret rfl))))
    by_cases h1' : r = 1
    · refine ⟨t ++ [⟨5, 0⟩], q + 1, Ev.step (fun k => by rw [spec_l20Term.j2]) ?_, by simp; omega, hs.app (SmallL.one (by decide)), by omega⟩
      exact ev_bind eo (ev_pos rfl (ev_bind e (ev_neg (by simp; omega) (ev_pos (by simp [h1']) (ev_pos (by omega) (ev_ret rfl))))))
    · obtain ⟨r2, e2, _⟩ := pickE b hb (q + 1) (by omega) 2
      refine ⟨t.set 0 ⟨(r2 : Int), 6⟩, q + 2, Ev.step (fun k => by rw [spec_l20Term.j2]) ?_, by simp; omega, fun x hx => ?_, by omega⟩
      · exact ev_bind eo (ev_pos rfl (ev_bind e (ev_neg (by simp; omega) (ev_neg (by simp; omega) (ev_bind e2 (ev_pos (by omega) (ev_ret rfl)))))))
      · rcases List.mem_or_eq_of_mem_set hx with hx | rfl
        · exact hs x hx
        · show (6 : Int) ≤ _
          decide
/-- A row of parts: none empty, none long. -/
def PartsP (c : Nat) (xs : List (List Mk)) : Prop := ∀ r ∈ xs, 1 ≤ r.length ∧ r.length ≤ c ∧ SmallL r
theorem parts_at {c : Nat} {xs : List (List Mk)} (h : PartsP c xs) (i : Nat) (hi : i < xs.length) : 1 ≤ (rd_Lparts xs (i : Int)).length ∧ (rd_Lparts xs (i : Int)).length ≤ c ∧ SmallL (rd_Lparts xs (i : Int)) := by
  unfold rd_Lparts
  rw [Int.toNat_natCast, List.getD_eq_getElem?_getD, List.getElem?_eq_getElem hi]
  exact h _ (List.getElem_mem hi)
/-- Rows of at most c marks, m steps more: none gets long. -/
def Fits (c m : Nat) : Prop := (c + 1) * 2 ^ m ≤ 4096
theorem Fits.next {c m : Nat} (h : Fits c (m + 1)) : Fits (2 * c + 1) m := by
  unfold Fits at h ⊢
  rw [show 2 * c + 1 + 1 = (c + 1) * 2 by omega, Nat.mul_assoc, Nat.mul_comm 2, ← Nat.pow_succ]
  exact h
theorem Fits.le {c m : Nat} (h : Fits c m) : c + 1 ≤ 4096 := by
  unfold Fits at h
  have h2 : 1 ≤ 2 ^ m := Nat.one_le_two_pow
  have h3 : (c + 1) * 1 ≤ (c + 1) * 2 ^ m := Nat.mul_le_mul_left _ h2
  rw [Nat.mul_one] at h3
  exact Nat.le_trans h3 h
theorem Fits.start : Fits 1 7 := by
  unfold Fits
  decide
set_option maxHeartbeats 1600000 in
theorem term_l1 (b : List Int) (hb : Bytes b) (d : Int) : ∀ (m : Nat) (xs : List (List Mk)) (x9 p c : Nat), 1 ≤ xs.length → xs.length + x9 ≤ m → m ≤ 12 → Fits c m → PartsP c xs → p + 3 * m ≤ 5000 →
    ∃ (s : List Mk) (q : Nat), Ev (fun k => spec_l20Term.l1 k d xs (x9 : Int) b (p : Int)) (s, (q : Int)) ∧ s.length ≤ 4097 ∧ SmallL s ∧ q ≤ p + 3 * m + 4 := by
  intro m
  induction m with
  | zero => intro xs x9 p c h1 h2; omega
  | succ m ih =>
    intro xs x9 p c h1 h2 hm hc hP hp
    have hc2 := hc.next
    have hc4 := hc.le
    clear hc
    by_cases hl : xs.length = 1
    · -- one part left: it is the term
      obtain ⟨a1, a2, a3⟩ : 1 ≤ (rd_Lparts xs 0).length ∧ (rd_Lparts xs 0).length ≤ c ∧ SmallL (rd_Lparts xs 0) := parts_at hP 0 (by omega)
      obtain ⟨r, e, _⟩ := pickE b hb p (by omega) 5
      by_cases h0 : r = 0
      · obtain ⟨s, q, hE, hs1, hs2, hq⟩ := term_j2 b hb d (rd_Lparts xs 0 ++ [⟨2, 0⟩]) (p + 1) (by omega) (by simp) (by simp; omega) (a3.app (SmallL.one (by decide)))
        refine ⟨s, q, Ev.step (fun k => by rw [spec_l20Term.l1]) ?_, hs1, hs2, by omega⟩
        refine ev_neg (by omega) (ev_pos (by omega) ?_)
        simp only [Option.bind_some, List.nil_append]
        refine ev_pos (by simp only [List.length_nil]; omega) ?_
        exact ev_bind e (ev_pos (by simp [h0]) (ev_pos (by have : (rd_Lparts xs (0 : Int)).length ≤ c := a2; omega) hE))
      · obtain ⟨s, q, hE, hs1, hs2, hq⟩ := term_j2 b hb d (rd_Lparts xs 0) (p + 1) (by omega) a1 (by omega) a3
        refine ⟨s, q, Ev.step (fun k => by rw [spec_l20Term.l1]) ?_, hs1, hs2, by omega⟩
        refine ev_neg (by omega) (ev_pos (by omega) ?_)
        simp only [Option.bind_some, List.nil_append]
        refine ev_pos (by simp only [List.length_nil]; omega) ?_
        exact ev_bind e (ev_neg (by simp; omega) hE)
    · obtain ⟨r, e, hr, _⟩ := pickE b hb p (by omega) ((xs.length : Int) - 1)
      have hr := hr (by omega)
      obtain ⟨a1, a2, a3⟩ := parts_at hP r (by omega)
      obtain ⟨b1, b2, b3⟩ := parts_at hP (r + 1) (by omega)
      have w1 : wrap64 ((r : Int) + 1) = ((r + 1 : Nat) : Int) := w64s (by omega)
      have w2 : wrap64 ((r : Int) + 2) = ((r + 2 : Nat) : Int) := by rw [w64 (by omega) (by omega)]; omega
      have wl : wrap64 ((xs.length : Int) - 1) = (xs.length : Int) - 1 := w64 (by omega) (by omega)
      generalize hA : rd_Lparts xs (r : Int) = A at a1 a2 a3
      generalize hB : rd_Lparts xs ((r + 1 : Nat) : Int) = B at b1 b2 b3
      -- two parts made one
      have J : ∀ p1 : Nat, p ≤ p1 → p1 ≤ p + 2 → ∃ (r3 : Nat) (s : List Mk) (q : Nat), Ev (fun k => spec_l20Rd_pick.f k b (p1 : Int) 3) ((r3 : Int), ((p1 + 1 : Nat) : Int)) ∧
          Ev (fun k => spec_l20Term.l1 k d (xs.take r ++ [A ++ B ++ [⟨wrap64 (3 + (r3 : Int)), 0⟩]] ++ xs.drop (r + 2)) (x9 : Int) b ((p1 + 1 : Nat) : Int)) (s, (q : Int)) ∧ s.length ≤ 4097 ∧ SmallL s ∧ q ≤ p + 3 * (m + 1) + 4 := fun p1 hp1 hp2 => by
        obtain ⟨r3, e3, _⟩ := pickE b hb p1 (by omega) 3
        obtain ⟨s, q, hE, hs1, hs2, hq⟩ := ih (xs.take r ++ [A ++ B ++ [⟨wrap64 (3 + (r3 : Int)), 0⟩]] ++ xs.drop (r + 2)) x9 (p1 + 1) (2 * c + 1) (by simp; omega) (by simp; omega) (by omega) hc2 (fun z hz => by
          simp only [List.mem_append, List.mem_singleton] at hz
          rcases hz with (hz | rfl) | hz
          · obtain ⟨y1, y2, y3⟩ := hP z (List.mem_of_mem_take hz); exact ⟨y1, by omega, y3⟩
          · refine ⟨by simp; omega, by simp only [List.length_append, List.length_singleton]; omega, (a3.app b3).app (SmallL.one (show (0 : Int) ≤ 9223372036854775807 by decide))⟩
          · obtain ⟨y1, y2, y3⟩ := hP z (List.mem_of_mem_drop hz); exact ⟨y1, by omega, y3⟩) (by omega)
        exact ⟨r3, s, q, e3, hE, hs1, hs2, by omega⟩
      have walkJ : ∀ (p1 r3 : Nat) (s : List Mk) (q : Nat), Ev (fun k => spec_l20Rd_pick.f k b (p1 : Int) 3) ((r3 : Int), ((p1 + 1 : Nat) : Int)) →
          Ev (fun k => spec_l20Term.l1 k d (xs.take r ++ [A ++ B ++ [⟨wrap64 (3 + (r3 : Int)), 0⟩]] ++ xs.drop (r + 2)) (x9 : Int) b ((p1 + 1 : Nat) : Int)) (s, (q : Int)) →
          Ev (fun k => if (0 : Int) ≤ (r : Int) then (if (r : Int) < (xs.length : Int) then (if 0 + (A).length < 8796093022208 then (if (0 : Int) ≤ ((r + 1 : Nat) : Int) then (if ((r + 1 : Nat) : Int) < (xs.length : Int) then (if (A).length + (B).length < 8796093022208 then ((spec_l20Rd_pick.f k b (p1 : Int) 3).bind fun bt => (if (A ++ B).length < 8796093022208 then (if (r : Int) ≤ (xs.length : Int) then (if 0 + (xs.take (r : Int).toNat).length < 5864062014805 then (if (xs.take (r : Int).toNat).length < 5864062014805 then (if (0 : Int) ≤ ((r + 2 : Nat) : Int) then (if ((r + 2 : Nat) : Int) ≤ (xs.length : Int) then (if (xs.take (r : Int).toNat ++ [A ++ B ++ [(⟨wrap64 (3 + bt.1), 0⟩ : Mk)]]).length + (xs.drop ((r + 2 : Nat) : Int).toNat).length < 5864062014805 then (spec_l20Term.l1 k d (xs.take (r : Int).toNat ++ [A ++ B ++ [(⟨wrap64 (3 + bt.1), 0⟩ : Mk)]] ++ xs.drop ((r + 2 : Nat) : Int).toNat) (x9 : Int) b bt.2) else none) else none) else none) else none) else none) else none) else none)) else none) else none) else none) else none) else none) else none) (s, (q : Int)) := fun p1 r3 s q e3 hE => by
        refine ev_pos (by omega) (ev_pos (by omega) (ev_pos (by omega) (ev_pos (by omega) (ev_pos (by omega) (ev_pos (by omega) (ev_bind e3 ?_))))))
        simp only [Int.toNat_natCast]
        refine ev_pos (by simp; omega) (ev_pos (by omega) (ev_pos (by simp; omega) (ev_pos (by simp; omega) (ev_pos (by omega) (ev_pos (by omega) (ev_pos (by simp; omega) hE))))))
      by_cases h9 : 0 < x9
      · obtain ⟨r2, e2, _⟩ := pickE b hb (p + 1) (by omega) 4
        by_cases hz : r2 = 0
        · -- one part turned
          obtain ⟨s, q, hE, hs1, hs2, hq⟩ := ih (xs.set r (A ++ [⟨2, 0⟩])) (x9 - 1) (p + 2) (2 * c + 1) (by simp; omega) (by simp; omega) (by omega) hc2 (fun z hz => by
            rcases List.mem_or_eq_of_mem_set hz with hz | rfl
            · obtain ⟨y1, y2, y3⟩ := hP z hz; exact ⟨y1, by omega, y3⟩
            · exact ⟨by simp, by simp; omega, a3.app (SmallL.one (by decide))⟩) (by omega)
          refine ⟨s, q, Ev.step (fun k => by rw [spec_l20Term.l1]) ?_, hs1, hs2, by omega⟩
          refine ev_pos (by omega) ?_
          rw [wl]
          refine ev_bind e ?_
          refine ev_pos (by omega) (ev_bind e2 (ev_pos (by simp [hz]) ?_))
          simp only [Option.bind_some, List.nil_append, List.length_nil, Int.toNat_natCast, hA]
          refine ev_pos (by omega) (ev_pos (by omega) (ev_pos (by omega) (ev_pos (by omega) ?_)))
          rw [w64 (x := (x9 : Int) - 1) (by omega) (by omega), show (x9 : Int) - 1 = ((x9 - 1 : Nat) : Int) by omega]
          exact hE
        · obtain ⟨r3, s, q, e3, hE, hs1, hs2, hq⟩ := J (p + 2) (by omega) (by omega)
          refine ⟨s, q, Ev.step (fun k => by rw [spec_l20Term.l1]) ?_, hs1, hs2, hq⟩
          refine ev_pos (by omega) ?_
          rw [wl]
          refine ev_bind e ?_
          refine ev_pos (by omega) (ev_bind e2 (ev_neg (by simp; omega) ?_))
          simp only [Option.bind_some, List.nil_append, List.length_nil, w1, w2, hA, hB]
          exact walkJ _ _ _ _ e3 hE
      · obtain ⟨r3, s, q, e3, hE, hs1, hs2, hq⟩ := J (p + 1) (by omega) (by omega)
        refine ⟨s, q, Ev.step (fun k => by rw [spec_l20Term.l1]) ?_, hs1, hs2, hq⟩
        refine ev_pos (by omega) ?_
        rw [wl]
        refine ev_bind e ?_
        refine ev_neg (by omega) ?_
        simp only [Option.bind_some, List.nil_append, List.length_nil, w1, w2, hA, hB]
        exact walkJ _ _ _ _ e3 hE
theorem term_l0 (b : List Int) (hb : Bytes b) (d x1 : Int) (h1 : 1 ≤ x1) (h4 : x1 ≤ 4) : ∀ (n : Nat) (xs : List (List Mk)) (p : Nat), xs.length + n ≤ 4 → 1 ≤ xs.length + n → PartsP 1 xs → p + 2 * n ≤ 4000 →
    ∃ (s : List Mk) (q : Nat), Ev (fun k => spec_l20Term.l0 k x1 d xs (n : Int) b (p : Int)) (s, (q : Int)) ∧ s.length ≤ 4097 ∧ SmallL s ∧ q ≤ p + 2 * n + 25 := by
  intro n
  induction n with
  | zero =>
    intro xs p hn hn1 hP hp
    obtain ⟨s, q, hE, hs1, hs2, hq⟩ := term_l1 b hb d 7 xs 3 p 1 (by omega) (by omega) (by omega) Fits.start hP (by omega)
    refine ⟨s, q, Ev.step (fun k => by rw [spec_l20Term.l0]) ?_, hs1, hs2, by omega⟩
    exact ev_neg (by decide) hE
  | succ n ih =>
    intro xs p hn hn1 hP hp
    obtain ⟨r, e, _⟩ := pickE b hb p (by omega) 4
    have hw : wrap64 (((n + 1 : Nat) : Int) - 1) = (n : Int) := by rw [w64 (by omega) (by omega)]; omega
    have one : ∀ z : Mk, z.f1 ≤ 9223372036854775807 → PartsP 1 (xs ++ [[z]]) := fun z hz y hy => by
      rcases List.mem_append.1 hy with hy | hy
      · exact hP y hy
      · rw [List.mem_singleton.1 hy]
        exact ⟨by simp, by simp, SmallL.one hz⟩
    by_cases h0 : r = 0
    · obtain ⟨r2, e2, _, hr2⟩ := pickB b hb (p + 1) (by omega) (wrap64 (x1 + 2)) (by rw [w64 (by omega) (by omega)]; omega)
      obtain ⟨s, q, hE, hs1, hs2, hq⟩ := ih (xs ++ [[⟨1, (r2 : Int)⟩]]) (p + 2) (by simp; omega) (by simp; omega) (one _ hr2) (by omega)
      refine ⟨s, q, Ev.step (fun k => by rw [spec_l20Term.l0]) ?_, hs1, hs2, by omega⟩
      rw [hw]
      exact ev_pos (by omega) (ev_bind e (ev_pos (by simp [h0]) (ev_bind e2 (ev_pos (by omega) hE))))
    · obtain ⟨r2, e2, _, hr2⟩ := pickB b hb (p + 1) (by omega) x1 (by omega)
      obtain ⟨s, q, hE, hs1, hs2, hq⟩ := ih (xs ++ [[⟨0, (r2 : Int)⟩]]) (p + 2) (by simp; omega) (by simp; omega) (one _ hr2) (by omega)
      refine ⟨s, q, Ev.step (fun k => by rw [spec_l20Term.l0]) ?_, hs1, hs2, by omega⟩
      rw [hw]
      exact ev_pos (by omega) (ev_bind e (ev_neg (by simp; omega) (ev_bind e2 (ev_pos (by omega) hE))))
/-- A drawn term: the draw ends, the term is no long one. -/
theorem l20TermE (b : List Int) (hb : Bytes b) (p : Nat) (hp : p ≤ 3900) (people d : Int) : ∃ (s : List Mk) (q : Nat), Ev (fun k => spec_l20Term.f k b (p : Int) people d) (s, (q : Int)) ∧ s.length ≤ 4097 ∧ SmallL s ∧ q ≤ p + 40 := by
  obtain ⟨r, e, hr, _⟩ := pickE b hb p (by omega) 4
  have hr := hr (by decide)
  obtain ⟨s, q, hE, hs1, hs2, hq⟩ := term_l0 b hb d (mn (mx people 1) 4) (by unfold mn mx; split <;> split <;> omega) (by unfold mn mx; split <;> split <;> omega) (r + 1) [] (p + 1) (by simp; omega) (by simp) (fun r hr => by simp at hr) (by omega)
  refine ⟨s, q, ?_, hs1, hs2, by omega⟩
  unfold spec_l20Term.f
  refine ev_bind e ?_
  dsimp only
  rw [w64 (x := 1 + (r : Int)) (by omega) (by omega), show 1 + (r : Int) = ((r + 1 : Nat) : Int) by omega]
  exact hE
end Go.Proofs.Ytbhmippoeimliaa.M

/- Drawn claims, stories, kinds: each draw ends; they are short. -/
set_option linter.unusedVariables false
set_option linter.unusedSimpArgs false
namespace Go.Proofs.Ytbhmippoeimliaa.M
open Go Go.RowKit Go.Proofs.YtbhmippoeimliaaW.PrintWords Go.Proofs.Ytbhmippoeimliaa.P
theorem l20ClaimE (b : List Int) (hb : Bytes b) (p : Nat) (hp : p ≤ 3000) (people d : Int) : ∃ (who : Int) (t : List Mk) (q : Nat), Ev (fun k => spec_l20Claim.f k b (p : Int) people d) (who, t, (q : Int)) ∧ t.length ≤ 4097 ∧ SmallL t ∧ q ≤ p + 50 := by
  obtain ⟨r, e, _⟩ := pickE b hb p (by omega) (mx people 1)
  obtain ⟨t, q, et, ht1, ht2, hq⟩ := l20TermE b hb (p + 1) (by omega) people (wrap64 (d * 2))
  obtain ⟨o, q2, eo, hq2⟩ := oddE b hb q (by omega) d
  cases o with
  | false =>
    refine ⟨(r : Int), t, q2, ?_, ht1, ht2, by omega⟩
    unfold spec_l20Claim.f
    exact ev_bind e (ev_bind et (ev_bind eo (ev_neg (by simp) (ev_ret rfl))))
  | true =>
    obtain ⟨r2, e2, h2, _⟩ := pickE b hb q2 (by omega) 2
    have h2 := h2 (by decide)
    refine ⟨rd [(-1), 4] (r2 : Int), t, q2 + 1, ?_, ht1, ht2, by omega⟩
    unfold spec_l20Claim.f
    refine ev_bind e (ev_bind et (ev_bind eo (ev_pos rfl ?_)))
    simp only [Option.bind_some]
    exact ev_bind e2 (ev_pos (by omega) (ev_pos (by simp; omega) (ev_ret rfl)))
/-- No claim's term is long, no mark's number beyond the machine's. -/
def SmallS (s : List Cl) : Prop := ∀ c ∈ s, c.f1.length ≤ 4097 ∧ SmallL c.f1
theorem SmallS.S64 {s : List Cl} (h : SmallS s) (hl : s.length < 4611686018427387904) : S64 s := ⟨hl, fun i => by
  rcases Nat.lt_or_ge i s.length with hi | hi
  · rw [List.getD_eq_getElem?_getD, List.getElem?_eq_getElem hi]
    obtain ⟨h1, h2⟩ := h _ (List.getElem_mem hi)
    exact ⟨h2.M64, by show (s[i]).f1.length < _; omega⟩
  · rw [List.getD_eq_getElem?_getD, List.getElem?_eq_none hi]
    have h0 : zC.f1 = ([] : List Mk) := rfl
    refine ⟨SmallL.M64 (fun x hx => ?_), ?_⟩
    · have hx : x ∈ zC.f1 := hx
      rw [h0] at hx
      simp at hx
    · show zC.f1.length < _
      rw [h0]
      decide⟩
theorem SmallS.app {s : List Cl} (h : SmallS s) {c : Cl} (h1 : c.f1.length ≤ 4097) (h2 : SmallL c.f1) : SmallS (s ++ [c]) := fun x hx => by
  rcases List.mem_append.1 hx with hx | hx
  · exact h x hx
  · rw [List.mem_singleton.1 hx]
    exact ⟨h1, h2⟩
theorem story_l1 (b : List Int) (n : Int) (p : Nat) : ∀ (d : Nat) (s : List Cl), 7 ≤ s.length + d → s.length ≤ 20 → SmallS s → ∃ s', Ev (fun k => spec_l20Story.l1 k n s b (p : Int)) (n, s', (p : Int)) ∧ s'.length ≤ 20 ∧ SmallS s' := by
  intro d
  induction d with
  | zero =>
    intro s h h2 hs
    refine ⟨s, Ev.step (fun k => by rw [spec_l20Story.l1]) ?_, h2, hs⟩
    exact ev_neg (by omega) (ev_ret rfl)
  | succ d ih =>
    intro s h h2 hs
    by_cases h7 : s.length < 7
    · obtain ⟨s', hE, h3, h4⟩ := ih (s ++ [⟨0, [⟨0, 0⟩]⟩]) (by simp; omega) (by simp; omega) (hs.app (by simp) (SmallL.one (by decide)))
      refine ⟨s', Ev.step (fun k => by rw [spec_l20Story.l1]) ?_, h3, h4⟩
      exact ev_pos (by omega) (ev_pos (by omega) hE)
    · refine ⟨s, Ev.step (fun k => by rw [spec_l20Story.l1]) ?_, h2, hs⟩
      exact ev_neg (by omega) (ev_ret rfl)
theorem story_l0 (b : List Int) (hb : Bytes b) (x1 n : Int) : ∀ (d : Nat) (s : List Cl) (p : Nat), p + 50 * d ≤ 3000 → s.length + d ≤ 10 → SmallS s →
    ∃ (s' : List Cl) (q : Nat), Ev (fun k => spec_l20Story.l0 k x1 n s (d : Int) b (p : Int)) (n, s', (q : Int)) ∧ s'.length ≤ 20 ∧ SmallS s' ∧ q ≤ p + 50 * d + 1 := by
  intro d
  induction d with
  | zero =>
    intro s p hp hl hs
    obtain ⟨o, q, eo, hq⟩ := oddE b hb p (by omega) x1
    cases o with
    | false =>
      refine ⟨s, q, Ev.step (fun k => by rw [spec_l20Story.l0]) ?_, by omega, hs, by omega⟩
      exact ev_neg (by decide) (ev_bind eo (ev_neg (by simp) (ev_ret rfl)))
    | true =>
      obtain ⟨s', hE, h3, h4⟩ := story_l1 b n q 7 s (by omega) (by omega) hs
      refine ⟨s', q, Ev.step (fun k => by rw [spec_l20Story.l0]) ?_, h3, h4, by omega⟩
      exact ev_neg (by decide) (ev_bind eo (ev_pos rfl hE))
  | succ d ih =>
    intro s p hp hl hs
    obtain ⟨who, t, q, et, ht1, ht2, hq⟩ := l20ClaimE b hb p (by omega) n (wrap64 (x1 * 3))
    obtain ⟨s', q2, hE, h3, h4, hq2⟩ := ih (s ++ [⟨who, t⟩]) q (by omega) (by simp; omega) (hs.app ht1 ht2)
    have hw : wrap64 (((d + 1 : Nat) : Int) - 1) = (d : Int) := by rw [w64 (by omega) (by omega)]; omega
    refine ⟨s', q2, Ev.step (fun k => by rw [spec_l20Story.l0]) ?_, h3, h4, by omega⟩
    rw [hw]
    exact ev_pos (by omega) (ev_bind et (ev_pos (by omega) hE))
theorem l20StoryE (b : List Int) (hb : Bytes b) (p : Nat) (hp : p ≤ 1000) (x1 : Int) : ∃ (n : Int) (s : List Cl) (q : Nat), Ev (fun k => spec_l20Story.f k b (p : Int) x1) (n, s, (q : Int)) ∧ 1 ≤ n ∧ n ≤ 4 ∧ s.length ≤ 20 ∧ SmallS s ∧ q ≤ p + 300 := by
  obtain ⟨r, e, h, _⟩ := pickE b hb p (by omega) 4
  obtain ⟨r2, e2, h2, _⟩ := pickE b hb (p + 1) (by omega) 5
  have h := h (by decide)
  have h2 := h2 (by decide)
  obtain ⟨s, q, hE, h3, h4, hq⟩ := story_l0 b hb x1 (wrap64 (1 + (r : Int))) r2 [] (p + 2) (by omega) (by simp; omega) (fun x hx => by simp at hx)
  refine ⟨wrap64 (1 + (r : Int)), s, q, ?_, by rw [w64 (by omega) (by omega)]; omega, by rw [w64 (by omega) (by omega)]; omega, h3, h4, by omega⟩
  unfold spec_l20Story.f
  exact ev_bind e (ev_bind e2 hE)
theorem kinds_l0 (b : List Int) (hb : Bytes b) (n : Nat) (x2 : Int) : ∀ (d i : Nat) (ks : List Int) (p : Nat), i + d = n → p + d ≤ 100000 → n ≤ 100 → ks.length + d ≤ 100 →
    ∃ (ks' : List Int) (q : Nat), Ev (fun k => spec_l20Kinds.l0 k (n : Int) x2 ks (i : Int) b (p : Int)) (ks', (q : Int)) ∧ ks'.length ≤ 200 ∧ q ≤ p + d + 2 := by
  intro d
  induction d with
  | zero =>
    intro i ks p hi hp hn hk
    obtain ⟨o, q, eo, hq⟩ := oddE b hb p (by omega) x2
    cases o with
    | false =>
      refine ⟨ks, q, Ev.step (fun k => by rw [spec_l20Kinds.l0]) ?_, by omega, by omega⟩
      exact ev_neg (by omega) (ev_bind eo (ev_neg (by simp) (ev_ret rfl)))
    | true =>
      obtain ⟨r, e, _⟩ := pickE b hb q (by omega) 2
      by_cases h0 : r = 0
      · refine ⟨[], q + 1, Ev.step (fun k => by rw [spec_l20Kinds.l0]) ?_, by simp, by omega⟩
        exact ev_neg (by omega) (ev_bind eo (ev_pos rfl (ev_bind e (ev_pos (by simp [h0]) (ev_ret rfl)))))
      · refine ⟨ks ++ [3], q + 1, Ev.step (fun k => by rw [spec_l20Kinds.l0]) ?_, by simp; omega, by omega⟩
        exact ev_neg (by omega) (ev_bind eo (ev_pos rfl (ev_bind e (ev_neg (by simp; omega) (ev_pos (by omega) (ev_ret rfl))))))
  | succ d ih =>
    intro i ks p hi hp hn hk
    obtain ⟨r, e, h, _⟩ := pickE b hb p (by omega) 5
    have h := h (by decide)
    obtain ⟨ks', q, hE, h1, hq⟩ := ih (i + 1) (ks ++ [rd [0, 1, 0, 1, 2] (r : Int)]) (p + 1) (by omega) (by omega) hn (by simp; omega)
    refine ⟨ks', q, Ev.step (fun k => by rw [spec_l20Kinds.l0]) ?_, h1, by omega⟩
    refine ev_pos (by omega) ?_
    simp only [Option.bind_some]
    refine ev_bind e (ev_pos (by omega) (ev_pos (by simp; omega) (ev_pos (by omega) ?_)))
    rw [w64s (by omega)]
    exact hE
theorem l20KindsE (b : List Int) (hb : Bytes b) (p : Nat) (hp : p ≤ 10000) (n : Int) (h0 : 0 ≤ n) (h4 : n ≤ 50) (x2 : Int) : ∃ (ks : List Int) (q : Nat), Ev (fun k => spec_l20Kinds.f k b (p : Int) n x2) (ks, (q : Int)) ∧ ks.length ≤ 200 ∧ q ≤ p + 60 := by
  obtain ⟨m, rfl⟩ : ∃ m : Nat, n = (m : Int) := ⟨n.toNat, by omega⟩
  obtain ⟨ks, q, hE, h, hq⟩ := kinds_l0 b hb m x2 m 0 [] p (by omega) (by omega) (by omega) (by simp; omega)
  exact ⟨ks, q, by unfold spec_l20Kinds.f; exact hE, h, by omega⟩
end Go.Proofs.Ytbhmippoeimliaa.M

/- The program's StoryOk tells whether it is a story. -/
set_option linter.unusedVariables false
set_option linter.unusedSimpArgs false
namespace Go.Proofs.Ytbhmippoeimliaa.M
open Go Go.RowKit Go.Proofs.YtbhmippoeimliaaW.PrintWords Go.Proofs.Ytbhmippoeimliaa.P
theorem impl_storyOk_l (n : Int) (s : List Cl) (hs : s.length < 4611686018427387904) : ∀ d i : Nat, i + d = s.length →
    Tells (fun k => impl_StoryOk.l0 k n s s (s.length : Int) (i : Int)) ((∀ j, i ≤ j → j < s.length → ClaimP n (s.getD j zC).f0 (s.getD j zC).f1) ∧ (1 ≤ n ∧ n ≤ 4) ∧ s.length ≤ 6) := by
  intro d
  induction d with
  | zero =>
    intro i hi
    refine Tells.step (fun k => by rw [impl_StoryOk.l0]) ?_
    refine Tells.neg (by omega) ?_
    refine Tells.bindc (peopleOkT n) ?_
    refine Tells.ite (fun h => Tells.dec ?_) (fun h => Tells.no fun h' => h (decide_eq_true h'.2.1))
    have h := of_decide_eq_true h
    exact ⟨fun h' => ⟨fun j h1 h2 => by omega, h, by omega⟩, fun h' => by omega⟩
  | succ d ih =>
    intro i hi
    refine Tells.step (fun k => by rw [impl_StoryOk.l0]) ?_
    rw [rdC, w64s (i := i) (by omega)]
    refine Tells.pos (by omega) ?_
    refine Tells.pos (by omega) ?_
    refine Tells.pos (by omega) ?_
    obtain ⟨b, hb, hi'⟩ := impl_claimOk n (s.getD i zC).f0 (s.getD i zC).f1
    refine Tells.bind hb ?_
    refine Tells.ite (fun h => ?_) (fun h => Tells.no fun h' => h (hi'.2 (h'.1 i (Nat.le_refl _) (by omega))))
    refine (ih (i + 1) (by omega)).iff ?_
    constructor
    · intro h'
      refine ⟨fun j h1 h2 => ?_, h'.2⟩
      rcases Nat.eq_or_lt_of_le h1 with e | e
      · exact e ▸ hi'.1 h
      · exact h'.1 j e h2
    · exact fun h' => ⟨fun j h1 h2 => h'.1 j (by omega) h2, h'.2⟩
theorem impl_storyOk (n : Int) (s : List Cl) (hs : s.length < 4611686018427387904) : Tells (fun k => impl_StoryOk.f k n s) (StoryP n s) := by
  unfold impl_StoryOk.f
  refine (impl_storyOk_l n s hs s.length 0 (by omega)).iff ?_
  exact ⟨fun h => ⟨fun j hj => h.1 j (by omega) hj, h.2⟩, fun h => ⟨fun j _ hj => h.1 j hj, h.2⟩⟩
end Go.Proofs.Ytbhmippoeimliaa.M

/- The reference's StoryOk tells whether it is a story. -/
set_option linter.unusedVariables false
set_option linter.unusedSimpArgs false
namespace Go.Proofs.Ytbhmippoeimliaa.M
open Go Go.RowKit Go.Proofs.YtbhmippoeimliaaW.PrintWords Go.Proofs.Ytbhmippoeimliaa.P
theorem spec_storyOk_l (n : Int) (hn : n ≤ 9223372036854775807) (s : List Cl) (hs : S64 s) : ∀ d i : Nat, i + d = s.length →
    Tells (fun k => spec_StoryOk.l0 k n s (i : Int)) ((∀ j, i ≤ j → j < s.length → ClaimP n (s.getD j zC).f0 (s.getD j zC).f1) ∧ (1 ≤ n ∧ n ≤ 4) ∧ s.length ≤ 6) := by
  intro d
  have hsl := hs.1
  induction d with
  | zero =>
    intro i hi
    refine Tells.step (fun k => by rw [spec_StoryOk.l0]) ?_
    refine Tells.neg (by omega) ?_
    refine Tells.bindc (l1InT n 1 4) ?_
    refine Tells.ite (fun h => Tells.dec ?_) (fun h => Tells.no fun h' => h (decide_eq_true h'.2.1))
    have h := of_decide_eq_true h
    exact ⟨fun h' => ⟨fun j h1 h2 => by omega, h, by omega⟩, fun h' => by omega⟩
  | succ d ih =>
    intro i hi
    refine Tells.step (fun k => by rw [spec_StoryOk.l0]) ?_
    rw [rdC, w64s (i := i) (by omega)]
    refine Tells.pos (by omega) ?_
    refine Tells.pos (by omega) ?_
    obtain ⟨b, hb, hi'⟩ := spec_claimOk n hn (s.getD i zC).f0 (s.getD i zC).f1 (hs.2 i).1 (hs.2 i).2
    refine Tells.bind hb ?_
    refine Tells.ite (fun h => ?_) (fun h => Tells.no fun h' => h (hi'.2 (h'.1 i (Nat.le_refl _) (by omega))))
    refine (ih (i + 1) (by omega)).iff ?_
    constructor
    · intro h'
      refine ⟨fun j h1 h2 => ?_, h'.2⟩
      rcases Nat.eq_or_lt_of_le h1 with e | e
      · exact e ▸ hi'.1 h
      · exact h'.1 j e h2
    · exact fun h' => ⟨fun j h1 h2 => h'.1 j (by omega) h2, h'.2⟩
theorem spec_storyOk (n : Int) (hn : n ≤ 9223372036854775807) (s : List Cl) (hs : S64 s) : Tells (fun k => spec_StoryOk.f k n s) (StoryP n s) := by
  unfold spec_StoryOk.f
  refine (spec_storyOk_l n hn s hs s.length 0 (by omega)).iff ?_
  exact ⟨fun h => ⟨fun j hj => h.1 j (by omega) hj, h.2⟩, fun h => ⟨fun j _ hj => h.1 j hj, h.2⟩⟩
end Go.Proofs.Ytbhmippoeimliaa.M

/- Kinds: both KindsOk, the world of kinds, whether a claim and a story may be made by kinds. -/
set_option linter.unusedVariables false
set_option linter.unusedSimpArgs false
namespace Go.Proofs.Ytbhmippoeimliaa.M
open Go Go.RowKit Go.Proofs.YtbhmippoeimliaaW.PrintWords Go.Proofs.Ytbhmippoeimliaa.P
def KindsP (ks : List Int) : Prop := (∀ i, i < ks.length → 0 ≤ ks.getD i 0 ∧ ks.getD i 0 ≤ 2) ∧ 1 ≤ ks.length ∧ ks.length ≤ 4
/-- The world of kinds. -/
def worldK (ks : List Int) : Nat := tabN (fun j => ks.getD j 0 == 1) ks.length
theorem worldK_lt (ks : List Int) (h : ks.length ≤ 4) : worldK ks < 16 := Nat.lt_of_lt_of_le (tabN_lt _ _) (pwm4 h)
def spyB (ks : List Int) (who : Int) (l : List Mk) : Bool := ks.getD who.toNat 0 == 2 || mayB who.toNat l (worldK ks)
def spiesP (ks : List Int) (s : List Cl) : Prop := KindsP ks ∧ StoryP ks.length s ∧ ∀ i, i < s.length → spyB ks (s.getD i zC).f0 (s.getD i zC).f1 = true
theorem from_next {P : Nat → Prop} {n i : Nat} (h0 : P i) : (∀ j, i + 1 ≤ j → j < n → P j) → ∀ j, i ≤ j → j < n → P j := fun h j h1 h2 => by
  rcases Nat.eq_or_lt_of_le h1 with e | e
  · exact e ▸ h0
  · exact h j e h2
theorem impl_kinds_l (ks : List Int) (hk : ks.length < 4611686018427387904) : ∀ d i : Nat, i + d = ks.length →
    Tells (fun k => impl_KindsOk.l0 k ks ks (ks.length : Int) (i : Int)) ((∀ j, i ≤ j → j < ks.length → 0 ≤ ks.getD j 0 ∧ ks.getD j 0 ≤ 2) ∧ 1 ≤ ks.length ∧ ks.length ≤ 4) := by
  intro d
  induction d with
  | zero =>
    intro i hi
    refine Tells.step (fun k => by rw [impl_KindsOk.l0]) ?_
    refine Tells.neg (by omega) ?_
    refine Tells.bindc (peopleOkT _) ?_
    exact Tells.dec ⟨fun h => ⟨fun j h1 h2 => by omega, by omega⟩, fun h => by omega⟩
  | succ d ih =>
    intro i hi
    refine Tells.step (fun k => by rw [impl_KindsOk.l0]) ?_
    rw [rdN, w64s (i := i) (by omega)]
    refine Tells.pos (by omega) ?_
    refine Tells.pos (by omega) ?_
    refine Tells.pos (by omega) ?_
    have go : 0 ≤ ks.getD i 0 ∧ ks.getD i 0 ≤ 2 → Tells (fun k => impl_KindsOk.l0 k ks ks (ks.length : Int) ((i + 1 : Nat) : Int)) ((∀ j, i ≤ j → j < ks.length → 0 ≤ ks.getD j 0 ∧ ks.getD j 0 ≤ 2) ∧ 1 ≤ ks.length ∧ ks.length ≤ 4) := fun h =>
      (ih (i + 1) (by omega)).iff ⟨fun h' => ⟨from_next h h'.1, h'.2⟩, fun h' => ⟨fun j h1 h2 => h'.1 j (by omega) h2, h'.2⟩⟩
    refine Tells.ite (fun h => go (by omega)) (fun h0 => ?_)
    refine Tells.ite (fun h => go (by omega)) (fun h1 => ?_)
    refine Tells.ite (fun h => go (by omega)) (fun h2 => ?_)
    exact Tells.no fun h' => by have := h'.1 i (Nat.le_refl _) (by omega); omega
theorem impl_kinds (ks : List Int) (hk : ks.length < 4611686018427387904) : Tells (fun k => impl_KindsOk.f k ks) (KindsP ks) := by
  unfold impl_KindsOk.f
  refine (impl_kinds_l ks hk ks.length 0 (by omega)).iff ?_
  exact ⟨fun h => ⟨fun j hj => h.1 j (by omega) hj, h.2⟩, fun h => ⟨fun j _ hj => h.1 j hj, h.2⟩⟩
theorem spec_kinds_l (ks : List Int) (hk : ks.length < 4611686018427387904) : ∀ d i : Nat, i + d = ks.length →
    Tells (fun k => spec_KindsOk.l0 k ks (i : Int)) ((∀ j, i ≤ j → j < ks.length → 0 ≤ ks.getD j 0 ∧ ks.getD j 0 ≤ 2) ∧ 1 ≤ ks.length ∧ ks.length ≤ 4) := by
  intro d
  induction d with
  | zero =>
    intro i hi
    refine Tells.step (fun k => by rw [spec_KindsOk.l0]) ?_
    refine Tells.neg (by omega) ?_
    refine Tells.bindc (l1InT _ _ _) ?_
    exact Tells.dec ⟨fun h => ⟨fun j h1 h2 => by omega, by omega⟩, fun h => by omega⟩
  | succ d ih =>
    intro i hi
    refine Tells.step (fun k => by rw [spec_KindsOk.l0]) ?_
    rw [rdN, w64s (i := i) (by omega)]
    refine Tells.pos (by omega) ?_
    refine Tells.pos (by omega) ?_
    refine Tells.bindc (l1InT _ _ _) ?_
    refine Tells.ite (fun h => ?_) (fun h => Tells.no fun h' => h (decide_eq_true (h'.1 i (Nat.le_refl _) (by omega))))
    have h := of_decide_eq_true h
    exact (ih (i + 1) (by omega)).iff ⟨fun h' => ⟨from_next h h'.1, h'.2⟩, fun h' => ⟨fun j h1 h2 => h'.1 j (by omega) h2, h'.2⟩⟩
theorem spec_kinds (ks : List Int) (hk : ks.length < 4611686018427387904) : Tells (fun k => spec_KindsOk.f k ks) (KindsP ks) := by
  unfold spec_KindsOk.f
  refine (spec_kinds_l ks hk ks.length 0 (by omega)).iff ?_
  exact ⟨fun h => ⟨fun j hj => h.1 j (by omega) hj, h.2⟩, fun h => ⟨fun j _ hj => h.1 j hj, h.2⟩⟩
theorem tabStep (p : Nat → Bool) (j : Nat) (hj : j ≤ 16) (h : p j = true) : Go.bits .or .i64 (tabN p j : Int) (pw j : Int) = ((tabN p (j + 1) : Nat) : Int) := by
  rw [or_pw p j hj]
  simp [tabN, h]
theorem tabStay (p : Nat → Bool) (j : Nat) (h : p j = false) : tabN p j = tabN p (j + 1) := by simp [tabN, h]
theorem impl_worldK_l (ks : List Int) (hk : ks.length ≤ 4) : ∀ d i : Nat, i + d = ks.length →
    Ev (fun k => impl_WorldOfKinds.l0 k ((tabN (fun j => ks.getD j 0 == 1) i : Nat) : Int) ks (ks.length : Int) (i : Int)) ((worldK ks : Nat) : Int) := by
  intro d
  induction d with
  | zero =>
    intro i hi
    refine Ev.step (fun k => by rw [impl_WorldOfKinds.l0]) ?_
    refine ev_neg (by omega) (ev_ret ?_)
    rw [show i = ks.length by omega]
    rfl
  | succ d ih =>
    intro i hi
    refine Ev.step (fun k => by rw [impl_WorldOfKinds.l0]) ?_
    rw [rdN, w64s (i := i) (by omega), shl_nat i (by omega)]
    refine ev_pos (by omega) ?_
    refine ev_pos (by omega) ?_
    refine ev_pos (by omega) ?_
    by_cases h : ks.getD i 0 = 1
    · refine ev_pos h ?_
      rw [tabStep (fun j => ks.getD j 0 == 1) i (by omega) (beq_iff_eq.2 h)]
      exact ih (i + 1) (by omega)
    · refine ev_neg h ?_
      rw [tabStay (fun j => ks.getD j 0 == 1) i (beq_eq_false_iff_ne.2 h)]
      exact ih (i + 1) (by omega)
theorem impl_worldKE (ks : List Int) (h : KindsP ks) : Ev (fun k => impl_WorldOfKinds.f k ks) ((worldK ks : Nat) : Int) := by
  have hl := h.2.2
  unfold impl_WorldOfKinds.f
  refine ev_bind ((impl_kinds ks (by omega)).ev (b := true) ⟨fun _ => h, fun _ => rfl⟩) ?_
  refine ev_pos rfl ?_
  exact impl_worldK_l ks hl ks.length 0 (by omega)
theorem spec_worldK_l (ks : List Int) (hk : ks.length ≤ 4) : ∀ d i : Nat, i + d = ks.length →
    Ev (fun k => spec_l9World.l0 k ks ((tabN (fun j => ks.getD j 0 == 1) i : Nat) : Int) (i : Int)) ((worldK ks : Nat) : Int) := by
  intro d
  induction d with
  | zero =>
    intro i hi
    refine Ev.step (fun k => by rw [spec_l9World.l0]) ?_
    refine ev_neg (by omega) (ev_ret ?_)
    rw [show i = ks.length by omega]
    rfl
  | succ d ih =>
    intro i hi
    refine Ev.step (fun k => by rw [spec_l9World.l0]) ?_
    rw [rdN, w64s (i := i) (by omega), shl_nat i (by omega)]
    refine ev_pos (by omega) ?_
    refine ev_pos (by omega) ?_
    by_cases h : ks.getD i 0 = 1
    · refine ev_pos h ?_
      rw [tabStep (fun j => ks.getD j 0 == 1) i (by omega) (beq_iff_eq.2 h)]
      exact ih (i + 1) (by omega)
    · refine ev_neg h ?_
      rw [tabStay (fun j => ks.getD j 0 == 1) i (beq_eq_false_iff_ne.2 h)]
      exact ih (i + 1) (by omega)
theorem spec_worldKE (ks : List Int) (h : KindsP ks) : Ev (fun k => spec_l9World.f k ks) ((worldK ks : Nat) : Int) :=
  spec_worldK_l ks h.2.2 ks.length 0 (by omega)
theorem impl_spySaysE (ks : List Int) (who : Int) (l : List Mk) (h : KindsP ks) (hc : ClaimP ks.length who l) : Ev (fun k => impl_SpySays.f k ks who l) (spyB ks who l) := by
  have hl := h.2.2
  unfold impl_SpySays.f
  refine ev_bind ((impl_kinds ks (by omega)).ev (b := true) ⟨fun _ => h, fun _ => rfl⟩) ?_
  refine ev_pos rfl ?_
  refine ev_bind ((impl_claimOk (ks.length : Int) who l).ev (b := true) ⟨fun _ => hc, fun _ => rfl⟩) ?_
  refine Ev.step (fun k => by rw [impl_SpySays.j0]) ?_
  obtain ⟨h0, h1, ht, _⟩ := hc
  refine ev_neg (by decide) ?_
  refine ev_pos h0 ?_
  refine ev_pos h1 ?_
  unfold spyB
  rw [show rd ks who = ks.getD who.toNat 0 from rfl]
  by_cases h2 : ks.getD who.toNat 0 = 2
  · refine ev_pos h2 (ev_ret ?_)
    rw [beq_iff_eq.2 h2, Bool.true_or]
  · refine ev_neg h2 ?_
    refine ev_bind (impl_worldKE ks h) ?_
    refine ev_bind (impl_mayE ht who h0 (by omega) _ (worldK_lt ks hl)) (ev_ret ?_)
    rw [beq_eq_false_iff_ne.2 h2, Bool.false_or]
theorem spec_spySaysE (ks : List Int) (who : Int) (l : List Mk) (h : KindsP ks) (h64 : M64 l) (hc : ClaimP ks.length who l) : Ev (fun k => spec_SpySays.f k ks who l) (spyB ks who l) := by
  have hl := h.2.2
  have hll := hc.2.2.2
  unfold spec_SpySays.f
  refine ev_bind ((spec_kinds ks (by omega)).ev (b := true) ⟨fun _ => h, fun _ => rfl⟩) ?_
  refine ev_pos rfl ?_
  refine ev_bind ((spec_claimOk (ks.length : Int) (by omega) who l h64 (by omega)).ev (b := true) ⟨fun _ => hc, fun _ => rfl⟩) ?_
  refine Ev.step (fun k => by rw [spec_SpySays.j0]) ?_
  obtain ⟨h0, h1, ht, _⟩ := hc
  refine ev_neg (by decide) ?_
  refine ev_pos h0 ?_
  refine ev_pos h1 ?_
  unfold spyB
  rw [show rd ks who = ks.getD who.toNat 0 from rfl]
  by_cases h2 : ks.getD who.toNat 0 = 2
  · refine ev_pos h2 (ev_ret ?_)
    rw [beq_iff_eq.2 h2, Bool.true_or]
  · refine ev_neg h2 ?_
    refine ev_bind (spec_worldKE ks h) ?_
    refine ev_bind (spec_mayE ht who h0 (by omega) _ (worldK_lt ks hl)) (ev_ret ?_)
    rw [beq_eq_false_iff_ne.2 h2, Bool.false_or]
theorem impl_spies_l (ks : List Int) (s : List Cl) (h : KindsP ks) (hs : StoryP ks.length s) : ∀ d i : Nat, i + d = s.length →
    Tells (fun k => impl_SpyStory.l0 k ks s (s.length : Int) (i : Int)) (∀ j, i ≤ j → j < s.length → spyB ks (s.getD j zC).f0 (s.getD j zC).f1 = true) := by
  intro d
  have hl := hs.2.2
  induction d with
  | zero =>
    intro i hi
    refine Tells.step (fun k => by rw [impl_SpyStory.l0]) ?_
    exact Tells.neg (by omega) (Tells.yes fun j h1 h2 => by omega)
  | succ d ih =>
    intro i hi
    refine Tells.step (fun k => by rw [impl_SpyStory.l0]) ?_
    rw [rdC, w64s (i := i) (by omega)]
    refine Tells.pos (by omega) ?_
    refine Tells.pos (by omega) ?_
    refine Tells.pos (by omega) ?_
    refine Tells.bind (impl_spySaysE ks _ _ h (hs.1 i (by omega))) ?_
    refine Tells.ite (fun h0 => ?_) (fun h0 => Tells.no fun h' => h0 (h' i (Nat.le_refl _) (by omega)))
    exact (ih (i + 1) (by omega)).iff ⟨fun h' => from_next (P := fun j => spyB ks (s.getD j zC).f0 (s.getD j zC).f1 = true) h0 h', fun h' j h1 h2 => h' j (by omega) h2⟩
theorem impl_spies (ks : List Int) (hk : ks.length < 4611686018427387904) (s : List Cl) (hs : s.length < 4611686018427387904) : Tells (fun k => impl_SpyStory.f k ks s) (spiesP ks s) := by
  unfold impl_SpyStory.f
  have no : ¬ spiesP ks s → Tells (fun k => impl_SpyStory.j0 k ks s true) (spiesP ks s) := fun h => by
    refine Tells.step (fun k => by rw [impl_SpyStory.j0]) ?_
    exact Tells.pos rfl (Tells.no h)
  obtain ⟨b, hb, hi⟩ := impl_kinds ks hk
  refine Tells.bind hb ?_
  refine Tells.ite (fun h => ?_) (fun h => no fun h' => h (hi.2 h'.1))
  obtain ⟨c, hc, hj⟩ := impl_storyOk (ks.length : Int) s hs
  refine Tells.bind hc ?_
  cases c with
  | false => exact no fun h' => by have := hj.2 h'.2.1; cases this
  | true =>
    refine Tells.step (fun k => by rw [impl_SpyStory.j0]) ?_
    refine Tells.neg (by decide) ?_
    refine (impl_spies_l ks s (hi.1 h) (hj.1 rfl) s.length 0 (by omega)).iff ?_
    exact ⟨fun h' => ⟨hi.1 h, hj.1 rfl, fun i hi => h' i (by omega) hi⟩, fun h' j _ hj => h'.2.2 j hj⟩
theorem spec_spies_l (ks : List Int) (s : List Cl) (h : KindsP ks) (h64 : S64 s) (hs : StoryP ks.length s) : ∀ d i : Nat, i + d = s.length →
    Tells (fun k => spec_SpyStory.l0 k ks s (i : Int)) (∀ j, i ≤ j → j < s.length → spyB ks (s.getD j zC).f0 (s.getD j zC).f1 = true) := by
  intro d
  have hl := hs.2.2
  induction d with
  | zero =>
    intro i hi
    refine Tells.step (fun k => by rw [spec_SpyStory.l0]) ?_
    exact Tells.neg (by omega) (Tells.yes fun j h1 h2 => by omega)
  | succ d ih =>
    intro i hi
    refine Tells.step (fun k => by rw [spec_SpyStory.l0]) ?_
    rw [rdC, w64s (i := i) (by omega)]
    refine Tells.pos (by omega) ?_
    refine Tells.pos (by omega) ?_
    refine Tells.bind (spec_spySaysE ks _ _ h (h64.2 i).1 (hs.1 i (by omega))) ?_
    refine Tells.ite (fun h0 => ?_) (fun h0 => Tells.no fun h' => h0 (h' i (Nat.le_refl _) (by omega)))
    exact (ih (i + 1) (by omega)).iff ⟨fun h' => from_next (P := fun j => spyB ks (s.getD j zC).f0 (s.getD j zC).f1 = true) h0 h', fun h' j h1 h2 => h' j (by omega) h2⟩
theorem spec_spies (ks : List Int) (hk : ks.length < 4611686018427387904) (s : List Cl) (hs : S64 s) : Tells (fun k => spec_SpyStory.f k ks s) (spiesP ks s) := by
  unfold spec_SpyStory.f
  have no : ¬ spiesP ks s → Tells (fun k => spec_SpyStory.j0 k ks s true) (spiesP ks s) := fun h => by
    refine Tells.step (fun k => by rw [spec_SpyStory.j0]) ?_
    exact Tells.pos rfl (Tells.no h)
  obtain ⟨b, hb, hi⟩ := spec_kinds ks hk
  refine Tells.bind hb ?_
  refine Tells.ite (fun h => ?_) (fun h => no fun h' => h (hi.2 h'.1))
  obtain ⟨c, hc, hj⟩ := spec_storyOk (ks.length : Int) (by omega) s hs
  refine Tells.bind hc ?_
  cases c with
  | false => exact no fun h' => by have := hj.2 h'.2.1; cases this
  | true =>
    refine Tells.step (fun k => by rw [spec_SpyStory.j0]) ?_
    refine Tells.neg (by decide) ?_
    refine (spec_spies_l ks s (hi.1 h) hs (hj.1 rfl) s.length 0 (by omega)).iff ?_
    exact ⟨fun h' => ⟨hi.1 h, hj.1 rfl, fun i hi => h' i (by omega) hi⟩, fun h' j _ hj => h'.2.2 j hj⟩
end Go.Proofs.Ytbhmippoeimliaa.M

/- The least number of questions, as a number; pairs of people in the order in which both loops take them. -/
import Derived.Test.YtnmkifpifmdplaaMCan
set_option linter.unusedVariables false
set_option linter.unusedSimpArgs false
namespace Go.Proofs.Ytnmkifpifmdplaa.M
open Go Go.RowKit Go.Proofs.YtnmkifpifmdplaaW.PrintWords Go.Proofs.Ytnmkifpifmdplaa.P
theorem least_nat {P : Nat → Prop} : ∀ d, P d → ∃ m, P m ∧ ∀ k, k < m → ¬ P k := by
  intro d
  induction d using Nat.strongRecOn with
  | _ d ih =>
    intro h
    by_cases hk : ∃ k, k < d ∧ P k
    · obtain ⟨k, hk, hp⟩ := hk
      exact ih k hk hp
    · exact ⟨d, h, fun k hk' hp => hk ⟨k, hk', hp⟩⟩
theorem isLeast_ex {n T : Nat} (hn : 1 ≤ n) (hT : T < pw (pw n)) : ∃ r, IsLeast n T r := by
  by_cases h : ∃ d, Can n d T
  · obtain ⟨d, hd⟩ := h
    obtain ⟨m, hm, hl⟩ := least_nat (P := fun d => Can n d T) d hd
    refine ⟨(m : Int), by omega, ?_, fun d _ => ⟨fun k => ⟨by omega, ?_⟩, fun k => can_mono (by omega) hm⟩⟩
    · have hc : Can n (n - 1) T := can_cap hT hm
      have : m ≤ n - 1 := Nat.le_of_not_lt fun hlt => hl _ hlt hc
      omega
    · have : m ≤ d := Nat.le_of_not_lt fun hlt => hl _ hlt k
      omega
  · exact ⟨-1, by decide, by omega, fun d _ => ⟨fun k => absurd ⟨d, k⟩ h, fun k => absurd k.1 (by decide)⟩⟩
open Classical in
/-- The least number of questions, -1 if none is enough. -/
noncomputable def leastN (n T : Nat) : Int := if h : ∃ r, IsLeast n T r then Classical.choose h else -1
theorem leastN_is {n T : Nat} (hn : 1 ≤ n) (hT : T < pw (pw n)) : IsLeast n T (leastN n T) := by
  unfold leastN
  have h := isLeast_ex hn hT
  rw [dif_pos h]
  exact Classical.choose_spec h
theorem leastN_eq {n T : Nat} {r : Int} (h : IsLeast n T r) : leastN n T = r := by
  unfold leastN
  rw [dif_pos ⟨r, h⟩]
  exact isLeast_uniq (Classical.choose_spec (⟨r, h⟩ : ∃ r, IsLeast n T r)) h
theorem isB_congr {D : Nat → Prop} {B : Int} {n T : Nat} {S S' : Nat → Nat → Prop} {b : Int} (hS : ∀ i j, S i j ↔ S' i j) (h : IsB D B n T S b) : IsB D B n T S' b := by
  have : S = S' := by
    funext i j
    exact propext (hS i j)
  exact this ▸ h
theorem isL_weak {D D' : Nat → Prop} {B B' : Int} {n T : Nat} {r : Int} (hD : ∀ d, D' d → D d) (hB : B ≤ B') (h : IsL D B n T r) : IsL D' B' n T r := ⟨h.1, Int.le_trans h.2.1 hB, fun d hd => h.2.2 d (hD d hd)⟩
theorem part_full {n T i j : Nat} {yes : Bool} (h : partT n T i j yes = T) : partT n T i j (!yes) = 0 := by
  refine zero_of_bits (partT_lt _ _ _ _ _) fun w hw => ?_
  obtain ⟨h1, h2, h3⟩ := (partT_bit n T i j (!yes) w).1 hw
  rw [← h] at h2
  have h4 := ((partT_bit n T i j yes w).1 h2).2.2
  cases yes <;> cases hb : (bitN w i == bitN w j) <;> rw [hb] at h3 h4 <;> simp at h3 h4
theorem eq_of_sub {A B : Nat} (h : Sub A B) (k : Sub B A) : A = B := by
  refine Nat.eq_of_testBit_eq fun i => ?_
  rw [Bool.eq_iff_iff, ← bitN_test, ← bitN_test]
  exact ⟨h i, k i⟩
theorem part_eq {n T i j : Nat} {yes : Bool} (hT : T < pw (pw n)) (h : partT n T i j (!yes) = 0) : partT n T i j yes = T := eq_of_sub (part_sub _ _ _ _ _) (part_zero hT i j yes h)
theorem isL_pairs {B : Int} {D : Nat → Prop} {n T : Nat} {b : Int} {S : Nat → Nat → Prop} (h0 : ¬ Settled n T) (hS : ∀ i j, i < n → j < n → i ≠ j → S i j ∨ S j i) (hS' : ∀ i j, S i j → i < n ∧ j < n) (h : IsB D B n T S b) :
    IsL (fun d => d = 0 ∨ ∃ e, d = e + 1 ∧ ∀ f, f ≤ e → D f) (B + 1) n T b :=
  isL_of h0 h (fun d i j hi hj hg => by
    rcases hS i j hi hj (good_ne hg) with s | s
    · exact ⟨i, j, s, hg⟩
    · exact ⟨j, i, s, good_comm hg⟩) hS'
theorem isLeast_pairs {n T : Nat} {b : Int} {S : Nat → Nat → Prop} (hn : 1 ≤ n) (hT : T < pw (pw n)) (h0 : ¬ Settled n T) (hS : ∀ i j, i < n → j < n → i ≠ j → S i j ∨ S j i) (hS' : ∀ i j, S i j → i < n ∧ j < n) (h : IsB (fun _ => True) ((n : Int) - 1) n T S b) : IsLeast n T b := by
  have := isL_pairs h0 hS hS' h
  refine isLeast_of (D := fun _ => True) hn hT (fun _ _ => trivial) (isL_weak (fun d _ => ?_) (Int.le_refl _) this) (by have := h.2.1; omega)
  cases d with
  | zero => exact .inl rfl
  | succ e => exact .inr ⟨e, rfl, fun _ _ => trivial⟩
theorem settled_known {n T : Nat} : Settled n T ↔ T = 0 ∨ 0 ≤ least (knownB T n) 0 n := by
  unfold Settled
  rcases least_spec (p := knownB T n) n 0 with ⟨e, h⟩ | ⟨m, e, h1, h2, h3, _⟩
  · rw [e]
    constructor
    · rintro (h' | ⟨k, hk, h'⟩)
      · exact .inl h'
      · rw [h k (by omega) (by omega)] at h'
        cases h'
    · rintro (h' | h')
      · exact .inl h'
      · exact absurd h' (by decide)
  · rw [e]
    exact ⟨fun _ => .inr (by omega), fun _ => .inr ⟨m, by omega, h3⟩⟩
theorem settled_f {n T : Nat} (hn : 1 ≤ n) (h4 : n ≤ 4) (hT : T < pw (pw n)) : Settled n T ↔ T = 0 ∨ 0 ≤ knownF (n : Int) (T : Int) := by
  rw [settled_known]
  by_cases h : T = 0
  · exact ⟨fun _ => .inl h, fun _ => .inl h⟩
  · have e : knownF (n : Int) (T : Int) = least (knownB T n) 0 n := by
      unfold knownF
      rw [if_pos ⟨(tabOk_nat n _).2 ⟨hn, h4, by omega, by omega⟩, by omega⟩, Int.toNat_natCast, Int.toNat_natCast]
    rw [e]
/-- LeastAsks, as both tell it. -/
noncomputable def leastF (n t : Int) : Int := if TabOk n t then leastN n.toNat t.toNat else -1
end Go.Proofs.Ytnmkifpifmdplaa.M

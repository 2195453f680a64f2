/- Tables and their worlds, as the program tells them. -/
import Derived.Test.YtbhmippoeimliaaMList
import Derived.Test.YtbhmippoeimliaaPx5
import Derived.Test.YtbhmippoeimliaaPx5
import Derived.Test.YtbhmippoeimliaaPx2
set_option linter.unusedVariables false
set_option linter.unusedSimpArgs false
namespace Go.Proofs.Ytbhmippoeimliaa.M
open Go Go.RowKit Go.Proofs.YtbhmippoeimliaaW.PrintWords Go.Proofs.Ytbhmippoeimliaa.P
theorem peopleOk (n : Int) : impl_peopleOk.f n = some (decide (1 ≤ n ∧ n ≤ 4)) := by
  unfold impl_peopleOk.f
  by_cases h : n ≥ 1
  · rw [if_pos h]
    simp [h]
  · rw [if_neg h]
    simp
    intro h'
    omega
theorem pw4 {n : Nat} (h : n ≤ 4) : pw n ≤ 16 := Nat.pow_le_pow_right (n := 2) (by decide) h
theorem shl_u64 (n : Nat) (hn : n ≤ 4) : shl .u64 1 (n : Int) = (pw n : Int) := by
  rcases (by omega : n = 0 ∨ n = 1 ∨ n = 2 ∨ n = 3 ∨ n = 4) with rfl | rfl | rfl | rfl | rfl <;> decide
theorem shl2 (n : Nat) (hn : n ≤ 4) : shl .i64 1 (shl .u64 1 (n : Int)) = (pw (pw n) : Int) := by
  rw [shl_u64 n hn, shl_nat _ (by have := pw4 hn; omega)]
theorem ppw {n : Nat} (h : n ≤ 4) : pw (pw n) ≤ 65536 := pw16 (pw4 h)
/-- A table of so many people. -/
def TabOk (n t : Int) : Prop := 1 ≤ n ∧ n ≤ 4 ∧ 0 ≤ t ∧ t < (pw (pw n.toNat) : Int)
instance (n t : Int) : Decidable (TabOk n t) := by unfold TabOk; infer_instance
theorem some_dec {b : Bool} {P : Prop} [Decidable P] (h : b = true ↔ P) : some b = some (decide P) := by
  congr 1
  rw [Bool.eq_iff_iff, decide_eq_true_eq]
  exact h
theorem tabOk_nat (m : Nat) (t : Int) : TabOk (m : Int) t ↔ 1 ≤ m ∧ m ≤ 4 ∧ 0 ≤ t ∧ t < (pw (pw m) : Int) := by
  unfold TabOk
  rw [Int.toNat_natCast]
  omega
theorem impl_tabOk (n t : Int) : impl_TableOk.f n t = some (decide (TabOk n t)) := by
  unfold impl_TableOk.f
  rw [peopleOk]
  simp only [Option.bind_some]
  by_cases h : 1 ≤ n ∧ n ≤ 4
  · obtain ⟨m, rfl⟩ : ∃ m : Nat, n = (m : Int) := ⟨n.toNat, by omega⟩
    rw [if_pos (decide_eq_true h), shl2 m (by omega)]
    by_cases h0 : t ≥ 0
    · rw [if_pos h0, if_pos (by omega)]
      refine some_dec ?_
      rw [tabOk_nat, decide_eq_true_eq]
      omega
    · rw [if_neg h0]
      refine some_dec ?_
      rw [tabOk_nat]
      exact ⟨fun h => (by cases h), fun h => by omega⟩
  · rw [if_neg (fun h' => h (of_decide_eq_true h'))]
    exact some_dec ⟨fun h => (by cases h), fun h' => absurd ⟨h'.1, h'.2.1⟩ h⟩
/-! ### the worlds of a table -/
def wl (T n : Nat) : List Nat := (List.range' 0 (pw n)).filter fun w => bitN T w == 1
theorem mem_wl (T n w : Nat) : w ∈ wl T n ↔ w < pw n ∧ bitN T w = 1 := by
  unfold wl
  rw [List.mem_filter, List.mem_range'_1, beq_iff_eq]
  omega
theorem wl_len (T n : Nat) : (wl T n).length ≤ pw n := Nat.le_trans (List.length_filter_le _ _) (by rw [List.length_range']; exact Nat.le_refl _)
theorem worlds_l (T n : Nat) (hn : n ≤ 4) (hT : T < 65536) : ∀ d i (acc : List Int), i + d = pw n → acc.length ≤ i →
    Ev (fun k => impl_WorldsIn.l0 k (T : Int) acc (pw n : Int) (i : Int)) (acc ++ castL ((List.range' i d).filter fun w => bitN T w == 1)) := by
  have hp := pw4 hn
  intro d
  induction d with
  | zero =>
    intro i acc hi ha
    refine Ev.step (fun k => by rw [impl_WorldsIn.l0]) ?_
    exact ev_neg (by omega) (ev_ret (by simp [castL]))
  | succ d ih =>
    intro i acc hi ha
    refine Ev.step (fun k => by rw [impl_WorldsIn.l0]) ?_
    rw [shr_and1 T i (by omega) (by omega), w64s (by omega), List.range'_succ, List.filter_cons]
    refine ev_pos (by omega) ?_
    refine ev_pos (by omega) ?_
    by_cases h : bitN T i = 1
    · refine ev_pos (by omega) ?_
      refine ev_pos (by omega) ?_
      rw [if_pos (by simp [h])]
      refine ev_eq (ih (i + 1) _ (by omega) (by simp; omega)) (by simp [castL])
    · refine ev_neg (by omega) ?_
      rw [if_neg (by simp [h])]
      exact ih (i + 1) acc (by omega) (by omega)
/-- WorldsIn, as the program tells it. -/
def worldsF (n t : Int) : List Int := if TabOk n t then castL (wl t.toNat n.toNat) else []
theorem impl_worldsE (n t : Int) : Ev (fun k => impl_WorldsIn.f k n t) (worldsF n t) := by
  unfold impl_WorldsIn.f worldsF
  refine ev_bindc (impl_tabOk n t) ?_
  by_cases h : TabOk n t
  · refine ev_pos (decide_eq_true h) ?_
    rw [if_pos h]
    obtain ⟨h1, h4, h0, ht⟩ := h
    obtain ⟨n, rfl⟩ : ∃ m : Nat, n = (m : Int) := ⟨n.toNat, by omega⟩
    obtain ⟨t, rfl⟩ : ∃ m : Nat, t = (m : Int) := ⟨t.toNat, by omega⟩
    rw [Int.toNat_natCast] at *
    have := ppw (n := n) (by omega)
    rw [Int.toNat_natCast, shl_nat n (by omega)]
    refine ev_pos (by omega) ?_
    exact worlds_l t n (by omega) (by omega) (pw n) 0 [] (by omega) (by simp)
  · refine ev_neg (fun h' => h (of_decide_eq_true h')) ?_
    rw [if_neg h]
    exact ev_ret rfl

/-- As many worlds as the table's number has ones. -/
theorem wl_popN (n : Nat) : ∀ T m : Nat, m = pw n → ((List.range' 0 m).filter fun w => bitN T w == 1).length = popN m T := by
  intro T m _
  have h : ∀ m T i : Nat, ((List.range' i m).filter fun w => bitN T w == 1).length = popN m (T / 2 ^ i) := by
    intro m
    induction m with
    | zero => intro T i; simp [popN]
    | succ m ih =>
      intro T i
      rw [List.range'_succ, List.filter_cons, popN]
      have e : T / 2 ^ i / 2 = T / 2 ^ (i + 1) := by rw [Nat.div_div_eq_div_mul, Nat.pow_succ]
      rw [e]
      have hb := bitN_01 T i
      have hd : T / 2 ^ i % 2 = bitN T i := rfl
      rw [hd]
      rcases hb with hb | hb
      · rw [if_neg (by rw [hb]; decide), ih T (i + 1), hb, Nat.zero_add]
      · rw [if_pos (by rw [hb]; rfl), List.length_cons, ih T (i + 1), hb, Nat.add_comm]
  have := h m T 0
  rwa [Nat.pow_zero, Nat.div_one] at this
theorem wl_pop (T n : Nat) : (wl T n).length = popN (pw n) T := wl_popN n T (pw n) rfl
end Go.Proofs.Ytbhmippoeimliaa.M

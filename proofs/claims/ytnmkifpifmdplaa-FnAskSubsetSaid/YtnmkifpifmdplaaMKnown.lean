/- Tables, their worlds, and who is known: the program and the reference tell the same. -/
import Derived.Test.YtnmkifpifmdplaaMList
import Derived.Test.YtnmkifpifmdplaaPx4
import Derived.Test.YtnmkifpifmdplaaPx4
import Derived.Test.YtnmkifpifmdplaaPx4
import Derived.Test.YtnmkifpifmdplaaPx1
import Derived.Test.YtnmkifpifmdplaaPx1
set_option linter.unusedVariables false
set_option linter.unusedSimpArgs false
namespace Go.Proofs.Ytnmkifpifmdplaa.M
open Go Go.RowKit Go.Proofs.YtnmkifpifmdplaaW.PrintWords Go.Proofs.Ytnmkifpifmdplaa.P

theorem l1In (a b c : Int) : spec_l1In.f a b c = some (decide (b ≤ a ∧ a ≤ c)) := by
  unfold spec_l1In.f
  by_cases h : a ≥ b
  · rw [if_pos h]
    simp [h]
  · rw [if_neg h]
    simp
    intro h'
    omega
theorem peopleOk (n : Int) : impl_peopleOk.f n = some (decide (1 ≤ n ∧ n ≤ 4)) := by
  unfold impl_peopleOk.f
  by_cases h : n ≥ 1
  · rw [if_pos h]
    simp [h]
  · rw [if_neg h]
    simp
    intro h'
    omega
theorem pw4 {n : Nat} (h : n ≤ 4) : pw n ≤ 16 := Nat.pow_le_pow_right (n := 2) (by decide) h
theorem shl_u64 (n : Nat) (hn : n ≤ 4) : shl .u64 1 (n : Int) = (pw n : Int) := by
  rcases (by omega : n = 0 ∨ n = 1 ∨ n = 2 ∨ n = 3 ∨ n = 4) with rfl | rfl | rfl | rfl | rfl <;> decide
theorem shl2 (n : Nat) (hn : n ≤ 4) : shl .i64 1 (shl .u64 1 (n : Int)) = (pw (pw n) : Int) := by
  rw [shl_u64 n hn, shl_nat _ (by have := pw4 hn; omega)]
theorem ppw {n : Nat} (h : n ≤ 4) : pw (pw n) ≤ 65536 := pw16 (pw4 h)
/-- A table of so many people. -/
def TabOk (n t : Int) : Prop := 1 ≤ n ∧ n ≤ 4 ∧ 0 ≤ t ∧ t < (pw (pw n.toNat) : Int)
instance (n t : Int) : Decidable (TabOk n t) := by unfold TabOk; infer_instance
theorem some_dec {b : Bool} {P : Prop} [Decidable P] (h : b = true ↔ P) : some b = some (decide P) := by
  congr 1
  rw [Bool.eq_iff_iff, decide_eq_true_eq]
  exact h
theorem tabOk_nat (m : Nat) (t : Int) : TabOk (m : Int) t ↔ 1 ≤ m ∧ m ≤ 4 ∧ 0 ≤ t ∧ t < (pw (pw m) : Int) := by
  unfold TabOk
  rw [Int.toNat_natCast]
  omega
theorem impl_tabOk (n t : Int) : impl_TableOk.f n t = some (decide (TabOk n t)) := by
  unfold impl_TableOk.f
  rw [peopleOk]
  simp only [Option.bind_some]
  by_cases h : 1 ≤ n ∧ n ≤ 4
  · obtain ⟨m, rfl⟩ : ∃ m : Nat, n = (m : Int) := ⟨n.toNat, by omega⟩
    rw [if_pos (decide_eq_true h), shl2 m (by omega)]
    by_cases h0 : t ≥ 0
    · rw [if_pos h0, if_pos (by omega)]
      refine some_dec ?_
      rw [tabOk_nat, decide_eq_true_eq]
      omega
    · rw [if_neg h0]
      refine some_dec ?_
      rw [tabOk_nat]
      exact ⟨fun h => (by cases h), fun h => by omega⟩
  · rw [if_neg (fun h' => h (of_decide_eq_true h'))]
    exact some_dec ⟨fun h => (by cases h), fun h' => absurd ⟨h'.1, h'.2.1⟩ h⟩
theorem spec_tabOk (n t : Int) : spec_TableOk.f n t = some (decide (TabOk n t)) := by
  unfold spec_TableOk.f
  rw [l1In]
  simp only [Option.bind_some]
  by_cases h : 1 ≤ n ∧ n ≤ 4
  · obtain ⟨m, rfl⟩ : ∃ m : Nat, n = (m : Int) := ⟨n.toNat, by omega⟩
    have := ppw (n := m) (by omega)
    have := pw_pos (pw m)
    rw [if_pos (decide_eq_true h), shl2 m (by omega), if_pos (by omega), l1In, w64 (by omega) (by omega)]
    simp only [Option.bind_some]
    refine some_dec ?_
    rw [tabOk_nat, decide_eq_true_eq]
    omega
  · rw [if_neg (fun h' => h (of_decide_eq_true h'))]
    exact some_dec ⟨fun h => (by cases h), fun h' => absurd ⟨h'.1, h'.2.1⟩ h⟩

/-! ### the worlds of a table -/
def wl (T n : Nat) : List Nat := (List.range' 0 (pw n)).filter fun w => bitN T w == 1
theorem mem_wl (T n w : Nat) : w ∈ wl T n ↔ w < pw n ∧ bitN T w = 1 := by
  unfold wl
  rw [List.mem_filter, List.mem_range'_1, beq_iff_eq]
  omega
theorem wl_len (T n : Nat) : (wl T n).length ≤ pw n := Nat.le_trans (List.length_filter_le _ _) (by rw [List.length_range']; exact Nat.le_refl _)
theorem worlds_l (T n : Nat) (hn : n ≤ 4) (hT : T < 65536) : ∀ d i (acc : List Int), i + d = pw n → acc.length ≤ i →
    Ev (fun k => impl_WorldsIn.l0 k (T : Int) acc (pw n : Int) (i : Int)) (acc ++ castL ((List.range' i d).filter fun w => bitN T w == 1)) := by
  have hp := pw4 hn
  intro d
  induction d with
  | zero =>
    intro i acc hi ha
    refine Ev.step (fun k => by rw [impl_WorldsIn.l0]) ?_
    exact ev_neg (by omega) (ev_ret (by simp [castL]))
  | succ d ih =>
    intro i acc hi ha
    refine Ev.step (fun k => by rw [impl_WorldsIn.l0]) ?_
    rw [shr_and1 T i (by omega) (by omega), w64s (by omega), List.range'_succ, List.filter_cons]
    refine ev_pos (by omega) ?_
    refine ev_pos (by omega) ?_
    by_cases h : bitN T i = 1
    · refine ev_pos (by omega) ?_
      refine ev_pos (by omega) ?_
      rw [if_pos (by simp [h])]
      refine ev_eq (ih (i + 1) _ (by omega) (by simp; omega)) (by simp [castL])
    · refine ev_neg (by omega) ?_
      rw [if_neg (by simp [h])]
      exact ih (i + 1) acc (by omega) (by omega)
/-- WorldsIn, as the program tells it. -/
def worldsF (n t : Int) : List Int := if TabOk n t then castL (wl t.toNat n.toNat) else []
theorem impl_worldsE (n t : Int) : Ev (fun k => impl_WorldsIn.f k n t) (worldsF n t) := by
  unfold impl_WorldsIn.f worldsF
  refine ev_bindc (impl_tabOk n t) ?_
  by_cases h : TabOk n t
  · refine ev_pos (decide_eq_true h) ?_
    rw [if_pos h]
    obtain ⟨h1, h4, h0, ht⟩ := h
    obtain ⟨n, rfl⟩ : ∃ m : Nat, n = (m : Int) := ⟨n.toNat, by omega⟩
    obtain ⟨t, rfl⟩ : ∃ m : Nat, t = (m : Int) := ⟨t.toNat, by omega⟩
    rw [Int.toNat_natCast] at *
    have := ppw (n := n) (by omega)
    rw [Int.toNat_natCast, shl_nat n (by omega)]
    refine ev_pos (by omega) ?_
    exact worlds_l t n (by omega) (by omega) (pw n) 0 [] (by omega) (by simp)
  · refine ev_neg (fun h' => h (of_decide_eq_true h')) ?_
    rw [if_neg h]
    exact ev_ret rfl

/-! ### the least number for which something holds -/
def least (p : Nat → Bool) : Nat → Nat → Int
  | _, 0 => -1
  | i, d + 1 => if p i then (i : Int) else least p (i + 1) d
theorem least_congr {p q : Nat → Bool} : ∀ d i, (∀ j, i ≤ j → j < i + d → p j = q j) → least p i d = least q i d := by
  intro d
  induction d with
  | zero => exact fun _ _ => rfl
  | succ d ih =>
    intro i h
    simp only [least]
    rw [h i (Nat.le_refl _) (by omega), ih (i + 1) fun j h1 h2 => h j (by omega) (by omega)]
theorem least_spec {p : Nat → Bool} : ∀ d i, (least p i d = -1 ∧ ∀ j, i ≤ j → j < i + d → p j = false) ∨ ∃ j : Nat, least p i d = (j : Int) ∧ i ≤ j ∧ j < i + d ∧ p j = true ∧ ∀ j', i ≤ j' → j' < j → p j' = false := by
  intro d
  induction d with
  | zero => exact fun i => .inl ⟨rfl, fun j h1 h2 => by omega⟩
  | succ d ih =>
    intro i
    simp only [least]
    by_cases h : p i = true
    · rw [if_pos h]
      exact .inr ⟨i, rfl, Nat.le_refl _, by omega, h, fun j' h1 h2 => by omega⟩
    · rw [if_neg h]
      rcases ih (i + 1) with ⟨e, hn⟩ | ⟨j, e, h1, h2, h3, h4⟩
      · refine .inl ⟨e, fun j h1 h2 => ?_⟩
        rcases Nat.eq_or_lt_of_le h1 with e' | e'
        · exact e' ▸ (by simpa using h)
        · exact hn j e' (by omega)
      · refine .inr ⟨j, e, by omega, by omega, h3, fun j' h1' h2' => ?_⟩
        rcases Nat.eq_or_lt_of_le h1' with e' | e'
        · exact e' ▸ (by simpa using h)
        · exact h4 j' e' h2'

/-! ### who is known -/
/-- Person k tells the truth in all worlds of the table. -/
def knownB (T n k : Nat) : Bool := (List.range (pw n)).all fun w => bitN T w == 0 || bitN w k == 1
theorem knownB_iff (T n k : Nat) : knownB T n k = true ↔ ∀ w, w < pw n → bitN T w = 1 → bitN w k = 1 := by
  unfold knownB
  rw [List.all_eq_true]
  constructor
  · intro h w hw hb
    have := h w (List.mem_range.2 hw)
    simp only [Bool.or_eq_true, beq_iff_eq] at this
    omega
  · intro h w hw
    have := h w (List.mem_range.1 hw)
    have := bitN_01 T w
    simp only [Bool.or_eq_true, beq_iff_eq]
    omega
theorem and_bits : ∀ a : Nat, a < 16 → ∀ b : Nat, b < 16 → ∀ i : Nat, i < 4 → (bitN (a &&& b) i == 1) = ((bitN a i == 1) && (bitN b i == 1)) := by decide +kernel
theorem and_lt16 (a b : Nat) (h : a < 16) : a &&& b < 16 := Nat.lt_of_le_of_lt Nat.and_le_left h
theorem all_ones : ∀ n : Nat, n < 5 → ∀ i : Nat, i < n → bitN (pw n - 1) i = 1 := by
  show ∀ n : Nat, n < 5 → ∀ i : Nat, i < n → bitN (2 ^ n - 1) i = 1
  decide +kernel
theorem fold_bits (l : List Nat) (hl : ∀ w ∈ l, w < 16) (i : Nat) (hi : i < 4) : ∀ a, a < 16 → (bitN (l.foldl (· &&& ·) a) i == 1) = ((bitN a i == 1) && l.all fun w => bitN w i == 1) := by
  induction l with
  | nil => intro a ha; simp
  | cons w l ih =>
    intro a ha
    rw [List.foldl_cons, ih (fun x hx => hl x (List.mem_cons_of_mem _ hx)) _ (and_lt16 _ _ ha), and_bits a ha w (hl w (by simp)) i hi, List.all_cons, Bool.and_assoc]
theorem fold_lt (l : List Nat) : ∀ a, a < 16 → l.foldl (· &&& ·) a < 16 := by
  induction l with
  | nil => exact fun a ha => ha
  | cons w l ih => exact fun a ha => ih _ (and_lt16 _ _ ha)
theorem and_nat16 (a b : Nat) (ha : a < 4294967296) (hb : b < 4294967296) : Go.bits .and .i64 (a : Int) (b : Int) = ((a &&& b : Nat) : Int) :=
  (bits_nat .i64 63 (by decide) wraps_i64 a b (by omega) (by omega)).1
theorem impl_known_l1 (A n : Nat) (hA : A < 16) (hn : n ≤ 4) : ∀ d i, i + d = n → Ev (fun k => impl_KnownTeller.l1 k (A : Int) (n : Int) (i : Int)) (least (fun j => bitN A j == 1) i d) := by
  intro d
  induction d with
  | zero =>
    intro i hi
    refine Ev.step (fun k => by rw [impl_KnownTeller.l1]) ?_
    exact ev_neg (by omega) (ev_ret rfl)
  | succ d ih =>
    intro i hi
    refine Ev.step (fun k => by rw [impl_KnownTeller.l1]) ?_
    rw [shr_and1 A i (by omega) (by omega), w64s (by omega)]
    refine ev_pos (by omega) ?_
    refine ev_pos (by omega) ?_
    simp only [least]
    by_cases h : bitN A i = 1
    · refine ev_pos (by omega) ?_
      rw [if_pos (by simp [h])]
      exact ev_ret rfl
    · refine ev_neg (by omega) ?_
      rw [if_neg (by simp [h])]
      exact ih (i + 1) (by omega)
theorem impl_known_l0 (l : List Nat) (n : Nat) (hl : ∀ w ∈ l, w < 16) (hn : n ≤ 4) (hlen : l.length ≤ 16) : ∀ (d i a : Nat), i + d = l.length → a < 16 →
    Ev (fun k => impl_KnownTeller.l0 k (n : Int) (a : Int) (castL l) (l.length : Int) (i : Int)) (least (fun j => bitN ((l.drop i).foldl (· &&& ·) a) j == 1) 0 n) := by
  intro d
  induction d with
  | zero =>
    intro i a hi ha
    refine Ev.step (fun k => by rw [impl_KnownTeller.l0]) ?_
    refine ev_neg (by omega) ?_
    rw [List.drop_eq_nil_of_le (by omega)]
    exact impl_known_l1 a n ha hn n 0 (by omega)
  | succ d ih =>
    intro i a hi ha
    refine Ev.step (fun k => by rw [impl_KnownTeller.l0]) ?_
    have hw : l.getD i 0 < 16 := hl _ (getD_mem l 0 i (by omega))
    rw [rdN, castL_getD, and_nat16 _ _ (by omega) (by omega), w64s (by omega), castL_len]
    refine ev_pos (by omega) ?_
    refine ev_pos (by omega) ?_
    refine ev_pos (by omega) ?_
    rw [List.drop_eq_getElem_cons (by omega), List.foldl_cons, ← getD_lt l 0 i (by omega)]
    exact ih (i + 1) _ (by omega) (and_lt16 _ _ ha)
/-- KnownTeller, as both tell it. -/
def knownF (n t : Int) : Int := if TabOk n t ∧ t ≠ 0 then least (knownB t.toNat n.toNat) 0 n.toNat else -1
theorem bits_zero : ∀ n : Nat, n < 5 → True := fun _ _ => trivial
theorem has_bit {T n : Nat} (hT : T < pw n) (h0 : T ≠ 0) : ∃ w, w < n ∧ bitN T w = 1 := by
  refine Classical.byContradiction fun h => h0 ?_
  have hz : ∀ w, w < n → bitN T w = 0 := fun w hw => by
    have := bitN_01 T w
    rcases this with e | e
    · exact e
    · exact absurd ⟨w, hw, e⟩ h
  clear h h0
  induction n generalizing T with
  | zero => simpa [pw] using hT
  | succ n ih =>
    have h0 := hz 0 (by omega)
    have hd : T / 2 = 0 := ih (T := T / 2) (by have : pw (n + 1) = 2 * pw n := by unfold pw; omega
                                               omega) (fun w hw => by
      have := hz (w + 1) (by omega)
      unfold bitN at this ⊢
      rw [Nat.div_div_eq_div_mul, ← Nat.pow_succ']
      exact this)
    unfold bitN at h0
    omega
theorem wl_nil {T n : Nat} (hT : T < pw (pw n)) : wl T n = [] ↔ T = 0 := by
  constructor
  · intro h
    refine Classical.byContradiction fun h0 => ?_
    obtain ⟨w, hw, hb⟩ := has_bit hT h0
    have := (mem_wl T n w).2 ⟨hw, hb⟩
    rw [h] at this
    cases this
  · rintro rfl
    rw [List.eq_nil_iff_forall_not_mem]
    intro w hw
    have := ((mem_wl 0 n w).1 hw).2
    simp [bitN] at this
theorem impl_knownE (n t : Int) : Ev (fun k => impl_KnownTeller.f k n t) (knownF n t) := by
  unfold impl_KnownTeller.f knownF
  refine ev_bind (impl_worldsE n t) ?_
  unfold worldsF
  by_cases h : TabOk n t
  · rw [if_pos h]
    obtain ⟨h1, h4, h0, ht⟩ := id h
    obtain ⟨n, rfl⟩ : ∃ m : Nat, n = (m : Int) := ⟨n.toNat, by omega⟩
    obtain ⟨t, rfl⟩ : ∃ m : Nat, t = (m : Int) := ⟨t.toNat, by omega⟩
    rw [Int.toNat_natCast] at ht
    rw [Int.toNat_natCast, Int.toNat_natCast, castL_len]
    have hp := pw4 (n := n) (by omega)
    have hpp := pw_pos n
    by_cases hz : t = 0
    · subst hz
      rw [(wl_nil (by omega)).2 rfl, if_neg (fun h => h.2 rfl)]
      exact ev_pos rfl (ev_ret rfl)
    · have hne : wl t n ≠ [] := fun h => hz ((wl_nil (by omega)).1 h)
      have hlen : 0 < (wl t n).length := List.length_pos_iff.2 hne
      have hle := wl_len t n
      refine ev_neg (by omega) ?_
      rw [if_pos ⟨h, by omega⟩, shl_nat n (by omega), w64 (by omega) (by omega), show (pw n : Int) - 1 = ((pw n - 1 : Nat) : Int) by omega]
      refine ev_pos (by omega) ?_
      have hw : ∀ w ∈ wl t n, w < 16 := fun w hw => by
        have := (mem_wl t n w).1 hw
        omega
      refine ev_eq (impl_known_l0 (wl t n) n hw (by omega) (by omega) (wl t n).length 0 (pw n - 1) (by omega) (by omega)) ?_
      refine least_congr n 0 fun j _ hj => ?_
      rw [List.drop_zero, fold_bits _ hw j (by omega) _ (by omega), all_ones n (by omega) j (by omega), beq_self_eq_true, Bool.true_and, Bool.eq_iff_iff, knownB_iff, List.all_eq_true]
      constructor
      · intro h w hw hb
        simpa using h w ((mem_wl t n w).2 ⟨hw, hb⟩)
      · intro h w hw
        have := (mem_wl t n w).1 hw
        simpa using h w this.1 this.2
  · rw [if_neg h, if_neg (fun h' => h h'.1)]
    exact ev_pos rfl (ev_ret rfl)
theorem spec_teller_l (T n : Nat) (hn : n ≤ 4) (hT : T < 65536) : ∀ d i, i + d = n → Ev (fun k => spec_l13Teller.l0 k (n : Int) (T : Int) (i : Int)) (least (knownB T n) i d) := by
  have hp := pw4 hn
  intro d
  induction d with
  | zero =>
    intro i hi
    refine Ev.step (fun k => by rw [spec_l13Teller.l0]) ?_
    exact ev_neg (by omega) (ev_ret rfl)
  | succ d ih =>
    intro i hi
    have inner : ∀ e w (b : Bool), w + e = pw n → (b = true ↔ ∀ w', w' < w → bitN T w' = 1 → bitN w' i = 1) →
        Ev (fun k => spec_l13Teller.l1 k (n : Int) (T : Int) (i : Int) b (w : Int)) (least (knownB T n) i (d + 1)) := by
      intro e
      induction e with
      | zero =>
        intro w b hw hb
        refine Ev.step (fun k => by rw [spec_l13Teller.l1]) ?_
        rw [shl_nat n (by omega), w64s (show i < 9223372036854775807 by omega)]
        refine ev_pos (by omega) ?_
        refine ev_neg (by omega) ?_
        have hk : b = knownB T n i := by
          rw [Bool.eq_iff_iff, hb, knownB_iff]
          obtain rfl : w = pw n := by omega
          exact Iff.rfl
        simp only [least]
        by_cases h : b = true
        · refine ev_pos h ?_
          rw [← hk, if_pos h]
          exact ev_ret rfl
        · refine ev_neg h ?_
          rw [← hk, if_neg h]
          exact ih (i + 1) (by omega)
      | succ e ihe =>
        intro w b hw hb
        refine Ev.step (fun k => by rw [spec_l13Teller.l1]) ?_
        rw [shl_nat n (by omega), w64s (show w < 9223372036854775807 by omega), shr_tmod2 T w (by omega), shr_tmod2 w i (by omega)]
        refine ev_pos (by omega) ?_
        refine ev_pos (by omega) ?_
        by_cases h : b = true
        · refine ev_pos h ?_
          refine ev_pos (by omega) ?_
          by_cases h0 : bitN T w = 0
          · refine ev_pos (by omega) ?_
            refine ihe (w + 1) true (by omega) ⟨fun _ w' h1 h2 => ?_, fun _ => rfl⟩
            by_cases e' : w' = w
            · subst e'
              omega
            · exact hb.1 h w' (by omega) h2
          · refine ev_neg (by omega) ?_
            refine ev_pos (by omega) ?_
            refine ihe (w + 1) _ (by omega) ?_
            rw [beq_iff_eq]
            have h1 : bitN T w = 1 := by have := bitN_01 T w; omega
            constructor
            · intro h2 w' h3 h4
              by_cases e' : w' = w
              · subst e'
                omega
              · exact hb.1 h w' (by omega) h4
            · intro h2
              have := h2 w (by omega) h1
              omega
        · refine ev_neg h ?_
          refine ihe (w + 1) false (by omega) ⟨fun h => (by cases h), fun h' => absurd (hb.2 fun w' h1 h2 => h' w' (by omega) h2) h⟩
    refine Ev.step (fun k => by rw [spec_l13Teller.l0]) ?_
    refine ev_pos (by omega) ?_
    exact inner (pw n) 0 true (by omega) ⟨fun _ w' h => by omega, fun _ => rfl⟩
theorem spec_knownE (n t : Int) : Ev (fun k => spec_KnownTeller.f k n t) (knownF n t) := by
  unfold spec_KnownTeller.f knownF
  refine ev_bindc (spec_tabOk n t) ?_
  by_cases h : TabOk n t
  · refine ev_pos (decide_eq_true h) ?_
    by_cases hz : t = 0
    · rw [if_neg (fun h => h.2 hz)]
      exact ev_pos hz (ev_ret rfl)
    · refine ev_neg hz ?_
      rw [if_pos ⟨h, hz⟩]
      obtain ⟨h1, h4, h0, ht⟩ := h
      obtain ⟨n, rfl⟩ : ∃ m : Nat, n = (m : Int) := ⟨n.toNat, by omega⟩
      obtain ⟨t, rfl⟩ : ∃ m : Nat, t = (m : Int) := ⟨t.toNat, by omega⟩
      rw [Int.toNat_natCast] at ht
      rw [Int.toNat_natCast, Int.toNat_natCast]
      have := ppw (n := n) (by omega)
      refine ev_bind (a := least (knownB t n) 0 n) ?_ (ev_ret rfl)
      exact spec_teller_l t n (by omega) (by omega) n 0 (by omega)
  · refine ev_neg (fun h' => h (of_decide_eq_true h')) ?_
    rw [if_neg (fun h' => h h'.1)]
    exact ev_ret rfl
end Go.Proofs.Ytnmkifpifmdplaa.M

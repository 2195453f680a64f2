/- How many questions are enough, without a program in sight: whoever knows more asks no more, and asking one person of each other one is enough if anything is. -/
import Derived.Test.YtnmkifpifmdplaaMAskSpec
import Derived.Test.YtnmkifpifmdplaaMTow
set_option linter.unusedVariables false
set_option linter.unusedSimpArgs false
namespace Go.Proofs.Ytnmkifpifmdplaa.M
open Go Go.RowKit Go.Proofs.YtnmkifpifmdplaaW.PrintWords Go.Proofs.Ytnmkifpifmdplaa.P
/-- The worlds of a table in which two people are of the same kind, and the others. -/
def partT (n T i j : Nat) (yes : Bool) : Nat := tabN (askP T i j yes) (pw n)
theorem partT_lt (n T i j : Nat) (yes : Bool) : partT n T i j yes < pw (pw n) := tabN_lt _ _
theorem partT_bit (n T i j : Nat) (yes : Bool) (w : Nat) : bitN (partT n T i j yes) w = 1 ↔ w < pw n ∧ bitN T w = 1 ∧ ((bitN w i == bitN w j) == yes) = true := by
  unfold partT
  rw [bitN_test, tab_testBit, Bool.and_eq_true, decide_eq_true_eq]
  unfold askP impl_AskedTable.same
  rw [Bool.and_eq_true, beq_iff_eq]
theorem partT_comm (n T i j : Nat) (yes : Bool) : partT n T i j yes = partT n T j i yes := by
  have e : askP T i j yes = askP T j i yes := by
    funext w
    unfold askP impl_AskedTable.same
    rw [BEq.comm (a := bitN w i)]
  unfold partT
  rw [e]
theorem bit_lt {n T w : Nat} (hT : T < pw n) (h : bitN T w = 1) : w < n := by
  refine Nat.lt_of_not_le fun hle => ?_
  have : T < 2 ^ w := Nat.lt_of_lt_of_le hT (Nat.pow_le_pow_right (by decide) hle)
  unfold bitN at h
  rw [Nat.div_eq_of_lt this] at h
  exact absurd h (by decide)
theorem zero_of_bits {n T : Nat} (hT : T < pw n) (h : ∀ w, bitN T w ≠ 1) : T = 0 := by
  refine Classical.byContradiction fun h0 => ?_
  obtain ⟨w, _, hw⟩ := has_bit hT h0
  exact h w hw
theorem bitN_zero (w : Nat) : bitN 0 w = 0 := by simp [bitN]
/-- The worlds of one are worlds of the other. -/
def Sub (A B : Nat) : Prop := ∀ w, bitN A w = 1 → bitN B w = 1
theorem Sub.rfl {A : Nat} : Sub A A := fun _ h => h
theorem Sub.trans {A B C : Nat} (h : Sub A B) (k : Sub B C) : Sub A C := fun w hw => k w (h w hw)
theorem part_sub (n T i j : Nat) (yes : Bool) : Sub (partT n T i j yes) T := fun w hw => ((partT_bit n T i j yes w).1 hw).2.1
theorem part_mono {n A B : Nat} (h : Sub A B) (i j : Nat) (yes : Bool) : Sub (partT n A i j yes) (partT n B i j yes) := fun w hw => by
  obtain ⟨h1, h2, h3⟩ := (partT_bit n A i j yes w).1 hw
  exact (partT_bit n B i j yes w).2 ⟨h1, h w h2, h3⟩
theorem part_zero {n A : Nat} (hA : A < pw (pw n)) (i j : Nat) (yes : Bool) (h : partT n A i j (!yes) = 0) : Sub A (partT n A i j yes) := fun w hw => by
  have hlt := bit_lt hA hw
  refine (partT_bit n A i j yes w).2 ⟨hlt, hw, ?_⟩
  refine Classical.byContradiction fun h' => ?_
  have : bitN (partT n A i j (!yes)) w = 1 := (partT_bit n A i j (!yes) w).2 ⟨hlt, hw, by
    cases yes <;> cases hb : (bitN w i == bitN w j) <;> simp [hb] at h' ⊢⟩
  rw [h, bitN_zero] at this
  exact absurd this (by decide)
theorem part_ne {n T i j : Nat} {yes : Bool} (h : partT n T i j yes ≠ 0) : ∃ w, bitN T w = 1 ∧ ((bitN w i == bitN w j) == yes) = true := by
  obtain ⟨w, _, hw⟩ := has_bit (partT_lt n T i j yes) h
  exact ⟨w, ((partT_bit n T i j yes w).1 hw).2⟩
theorem ne_part {n T i j w : Nat} {yes : Bool} (hT : T < pw (pw n)) (h : bitN T w = 1) (hw : ((bitN w i == bitN w j) == yes) = true) : partT n T i j yes ≠ 0 := fun h0 => by
  have : bitN (partT n T i j yes) w = 1 := (partT_bit n T i j yes w).2 ⟨bit_lt hT h, h, hw⟩
  rw [h0, bitN_zero] at this
  exact absurd this (by decide)

/-! ### enough questions -/
/-- Somebody is known, or there is no world. -/
def Settled (n T : Nat) : Prop := T = 0 ∨ ∃ k, k < n ∧ knownB T n k = true
def Can (n : Nat) : Nat → Nat → Prop
  | 0, T => Settled n T
  | d + 1, T => Can n d T ∨ ∃ i j, i < n ∧ j < n ∧ partT n T i j true ≠ 0 ∧ partT n T i j false ≠ 0 ∧ Can n d (partT n T i j true) ∧ Can n d (partT n T i j false)
def Good (n d T i j : Nat) : Prop := partT n T i j true ≠ 0 ∧ partT n T i j false ≠ 0 ∧ Can n d (partT n T i j true) ∧ Can n d (partT n T i j false)
theorem good_comm {n d T i j : Nat} (h : Good n d T i j) : Good n d T j i := by
  unfold Good at *
  rwa [partT_comm n T j i true, partT_comm n T j i false]
theorem good_ne {n d T i j : Nat} (h : Good n d T i j) : i ≠ j := fun e => by
  subst e
  obtain ⟨w, _, hw⟩ := part_ne h.2.1
  simp at hw
theorem can_mono {n T : Nat} {d e : Nat} (h : d ≤ e) (k : Can n d T) : Can n e T := by
  induction e with
  | zero =>
    obtain rfl : d = 0 := by omega
    exact k
  | succ e ih =>
    rcases Nat.eq_or_lt_of_le h with e' | e'
    · exact e' ▸ k
    · exact .inl (ih (by omega))
theorem can_sub (n d : Nat) : ∀ A B, A < pw (pw n) → B < pw (pw n) → Sub A B → Can n d B → Can n d A := by
  induction d with
  | zero =>
    intro A B hA hB hs h
    rcases h with h | ⟨k, hk, h⟩
    · subst h
      exact .inl (zero_of_bits hA fun w hw => by
        have := hs w hw
        rw [bitN_zero] at this
        exact absurd this (by decide))
    · exact .inr ⟨k, hk, (knownB_iff A n k).2 fun w hw hb => (knownB_iff B n k).1 h w hw (hs w hb)⟩
  | succ d ih =>
    intro A B hA hB hs h
    rcases h with h | ⟨i, j, hi, hj, h1, h2, c1, c2⟩
    · exact .inl (ih A B hA hB hs h)
    · by_cases e1 : partT n A i j true = 0
      · exact .inl (ih A _ hA (partT_lt _ _ _ _ _) ((part_zero hA i j false e1).trans (part_mono hs i j false)) c2)
      by_cases e2 : partT n A i j false = 0
      · exact .inl (ih A _ hA (partT_lt _ _ _ _ _) ((part_zero hA i j true e2).trans (part_mono hs i j true)) c1)
      exact .inr ⟨i, j, hi, hj, e1, e2, ih _ _ (partT_lt _ _ _ _ _) (partT_lt _ _ _ _ _) (part_mono hs i j true) c1, ih _ _ (partT_lt _ _ _ _ _) (partT_lt _ _ _ _ _) (part_mono hs i j false) c2⟩
/-- The question to one whether person 0 is alike parts the worlds. -/
def Splits (n T i : Nat) : Prop := partT n T i 0 true ≠ 0 ∧ partT n T i 0 false ≠ 0
theorem splits_sub {n A B i : Nat} (hB : B < pw (pw n)) (hs : Sub A B) (h : Splits n A i) : Splits n B i := by
  obtain ⟨w, h1, h2⟩ := part_ne h.1
  obtain ⟨v, h3, h4⟩ := part_ne h.2
  exact ⟨ne_part hB (hs w h1) h2, ne_part hB (hs v h3) h4⟩
theorem agree {n T i : Nat} (hT : T < pw (pw n)) (h : ¬ Splits n T i) {w v : Nat} (hw : bitN T w = 1) (hv : bitN T v = 1) : (bitN w i == bitN w 0) = (bitN v i == bitN v 0) := by
  refine Classical.byContradiction fun hne => h ?_
  cases ew : (bitN w i == bitN w 0) <;> cases ev : (bitN v i == bitN v 0)
  · exact absurd (ew.trans ev.symm) hne
  · exact ⟨ne_part hT hv (by rw [ev]; rfl), ne_part hT hw (by rw [ew]; rfl)⟩
  · exact ⟨ne_part hT hw (by rw [ew]; rfl), ne_part hT hv (by rw [ev]; rfl)⟩
  · exact absurd (ew.trans ev.symm) hne
theorem same_by {w i j : Nat} : (bitN w i == bitN w j) = ((bitN w i == bitN w 0) == (bitN w j == bitN w 0)) := by
  rcases bitN_01 w i with a | a <;> rcases bitN_01 w j with b | b <;> rcases bitN_01 w 0 with c | c <;> rw [a, b, c] <;> rfl
theorem no_split {n T : Nat} (hT : T < pw (pw n)) (h : ∀ i, 1 ≤ i → i < n → ¬ Splits n T i) (d : Nat) (k : Can n d T) : Can n 0 T := by
  induction d with
  | zero => exact k
  | succ d ih =>
    rcases k with k | ⟨i, j, hi, hj, h1, h2, _, _⟩
    · exact ih k
    · obtain ⟨w, w1, w2⟩ := part_ne h1
      obtain ⟨v, v1, v2⟩ := part_ne h2
      have key : ∀ i, i < n → (bitN w i == bitN w 0) = (bitN v i == bitN v 0) := fun i hi => by
        by_cases h0 : i = 0
        · subst h0
          simp
        · exact agree hT (h i (by omega) hi) w1 v1
      rw [same_by, key i hi, key j hj, ← same_by] at w2
      cases e : (bitN v i == bitN v j) <;> rw [e] at w2 v2 <;> simp at w2 v2
theorem can_less (n d : Nat) : ∀ c T, c ≤ n → T < pw (pw n) → (∀ i, c ≤ i → i < n → 1 ≤ i → ¬ Splits n T i) → Can n d T → Can n (c - 1) T := by
  intro c
  induction c with
  | zero => exact fun T _ hT h k => no_split hT (fun i h1 hi => h i (by omega) hi h1) d k
  | succ c ih =>
    intro T hc hT h k
    by_cases h0 : c = 0
    · subst h0
      exact no_split hT (fun i h1 hi => h i (by omega) hi h1) d k
    obtain ⟨e, rfl⟩ : ∃ e, c = e + 1 := ⟨c - 1, by omega⟩
    simp only [Nat.add_sub_cancel] at *
    by_cases hs : Splits n T (e + 1)
    · have go : ∀ yes, Can n e (partT n T (e + 1) 0 yes) := fun yes => by
        refine ih _ (by omega) (partT_lt _ _ _ _ _) (fun i h1 hi h2 h3 => ?_) (can_sub n d _ _ (partT_lt _ _ _ _ _) hT (part_sub _ _ _ _ _) k)
        by_cases he : i = e + 1
        · subst he
          obtain ⟨w, w1, w2⟩ := part_ne h3.1
          obtain ⟨v, v1, v2⟩ := part_ne h3.2
          have a := ((partT_bit _ _ _ _ _ _).1 w1).2.2
          have b := ((partT_bit _ _ _ _ _ _).1 v1).2.2
          cases e1 : (bitN w (e + 1) == bitN w 0) <;> cases e2 : (bitN v (e + 1) == bitN v 0) <;> rw [e1] at w2 a <;> rw [e2] at v2 b <;> cases yes <;> simp at *
        · exact h i (by omega) hi h2 (splits_sub hT (part_sub _ _ _ _ _) h3)
      exact .inr ⟨e + 1, 0, by omega, by omega, hs.1, hs.2, go true, go false⟩
    · refine .inl (ih T (by omega) hT (fun i h1 hi h2 => ?_) k)
      by_cases he : i = e + 1
      · exact he ▸ hs
      · exact h i (by omega) hi h2
/-- If it can be done at all, it can be done with a question less than there are people. -/
theorem can_cap {n d T : Nat} (hT : T < pw (pw n)) (k : Can n d T) : Can n (n - 1) T := can_less n d n T (Nat.le_refl _) hT (fun i h1 h2 => by omega) k

/-! ### the least number -/
/-- r is the least number, as far as D reaches. -/
def IsL (D : Nat → Prop) (B : Int) (n T : Nat) (r : Int) : Prop := -1 ≤ r ∧ r ≤ B ∧ ∀ d : Nat, D d → (Can n d T ↔ 0 ≤ r ∧ r ≤ (d : Int))
/-- b is the least number over the pairs in S. -/
def IsB (D : Nat → Prop) (B : Int) (n T : Nat) (S : Nat → Nat → Prop) (b : Int) : Prop := (b = -1 ∨ 1 ≤ b) ∧ b ≤ B + 1 ∧ ∀ d : Nat, D d → ((∃ i j, S i j ∧ Good n d T i j) ↔ 0 ≤ b ∧ b ≤ (d : Int) + 1)
theorem isB_none (D : Nat → Prop) (B : Int) (hB : 0 ≤ B) (n T : Nat) (S : Nat → Nat → Prop) (h : ∀ i j, ¬ S i j) : IsB D B n T S (-1) :=
  ⟨.inl rfl, by omega, fun d _ => ⟨fun ⟨i, j, hs, _⟩ => absurd hs (h i j), fun h => absurd h.1 (by decide)⟩⟩
theorem isB_skip {D : Nat → Prop} {B : Int} {n T : Nat} {S S' : Nat → Nat → Prop} {b : Int} {i j : Nat} (h : IsB D B n T S b) (h0 : partT n T i j true = 0 ∨ partT n T i j false = 0) (hS : ∀ x y, S' x y ↔ S x y ∨ x = i ∧ y = j) : IsB D B n T S' b := by
  refine ⟨h.1, h.2.1, fun d hd => Iff.trans ⟨?_, ?_⟩ (h.2.2 d hd)⟩
  · rintro ⟨x, y, hs, hg⟩
    rcases (hS x y).1 hs with hs | ⟨rfl, rfl⟩
    · exact ⟨x, y, hs, hg⟩
    · rcases h0 with h0 | h0
      · exact absurd h0 hg.1
      · exact absurd h0 hg.2.1
  · rintro ⟨x, y, hs, hg⟩
    exact ⟨x, y, (hS x y).2 (.inl hs), hg⟩
def better (a c b : Int) : Int := if 0 ≤ a ∧ 0 ≤ c ∧ (b < 0 ∨ 1 + max a c < b) then 1 + max a c else b
theorem isB_step {D : Nat → Prop} {B : Int} {n T : Nat} {S S' : Nat → Nat → Prop} {b a c : Int} {i j : Nat} (h : IsB D B n T S b) (h1 : partT n T i j true ≠ 0) (h2 : partT n T i j false ≠ 0)
    (ha : IsL D B n (partT n T i j true) a) (hc : IsL D B n (partT n T i j false) c) (hS : ∀ x y, S' x y ↔ S x y ∨ x = i ∧ y = j) : IsB D B n T S' (better a c b) := by
  have key : ∀ d, D d → (Good n d T i j ↔ (0 ≤ a ∧ a ≤ (d : Int)) ∧ (0 ≤ c ∧ c ≤ (d : Int))) := fun d hd => by
    rw [← ha.2.2 d hd, ← hc.2.2 d hd]
    exact ⟨fun h => h.2.2, fun h => ⟨h1, h2, h⟩⟩
  have split : ∀ d, D d → ((∃ x y, S' x y ∧ Good n d T x y) ↔ (0 ≤ b ∧ b ≤ (d : Int) + 1) ∨ ((0 ≤ a ∧ a ≤ (d : Int)) ∧ (0 ≤ c ∧ c ≤ (d : Int)))) := fun d hd => by
    rw [← h.2.2 d hd, ← key d hd]
    constructor
    · rintro ⟨x, y, hs, hg⟩
      rcases (hS x y).1 hs with hs | ⟨rfl, rfl⟩
      · exact .inl ⟨x, y, hs, hg⟩
      · exact .inr hg
    · rintro (⟨x, y, hs, hg⟩ | hg)
      · exact ⟨x, y, (hS x y).2 (.inl hs), hg⟩
      · exact ⟨i, j, (hS i j).2 (.inr ⟨rfl, rfl⟩), hg⟩
  have b0 := h.1
  have b1 := h.2.1
  have a1 := ha.2.1
  have c1 := hc.2.1
  unfold better
  by_cases hh : 0 ≤ a ∧ 0 ≤ c ∧ (b < 0 ∨ 1 + max a c < b)
  · rw [if_pos hh]
    refine ⟨by omega, by omega, fun d hd => (split d hd).trans ?_⟩
    omega
  · rw [if_neg hh]
    refine ⟨b0, b1, fun d hd => (split d hd).trans ?_⟩
    omega
theorem isL_settled {D : Nat → Prop} {B : Int} (hB : 0 ≤ B) {n T : Nat} (h : Settled n T) : IsL D B n T 0 :=
  ⟨by decide, hB, fun d _ => ⟨fun _ => by omega, fun _ => can_mono (Nat.zero_le d) h⟩⟩
theorem isL_of {D : Nat → Prop} {B : Int} {n T : Nat} {S : Nat → Nat → Prop} {b : Int} (h0 : ¬ Settled n T) (h : IsB D B n T S b) (hS : ∀ d i j, i < n → j < n → Good n d T i j → ∃ x y, S x y ∧ Good n d T x y) (hS' : ∀ i j, S i j → i < n ∧ j < n) :
    IsL (fun d => d = 0 ∨ ∃ e, d = e + 1 ∧ ∀ f, f ≤ e → D f) (B + 1) n T b := by
  have b0 := h.1
  refine ⟨by omega, h.2.1, fun d hd => ?_⟩
  have zero : Can n 0 T ↔ 0 ≤ b ∧ b ≤ ((0 : Nat) : Int) := ⟨fun k => absurd k h0, fun k => by omega⟩
  rcases hd with rfl | ⟨e, rfl, hd⟩
  · exact zero
  · have all : ∀ f, f ≤ e + 1 → (Can n f T ↔ 0 ≤ b ∧ b ≤ (f : Int)) := by
      intro f
      induction f with
      | zero => exact fun _ => zero
      | succ f ih =>
        intro hf
        have hx := h.2.2 f (hd f (by omega))
        have hi := ih (by omega)
        constructor
        · rintro (k | ⟨i, j, hi', hj', hg⟩)
          · have := hi.1 k
            omega
          · obtain ⟨x, y, hs, hg'⟩ := hS f i j hi' hj' hg
            have := hx.1 ⟨x, y, hs, hg'⟩
            omega
        · intro k
          obtain ⟨i, j, hs, hg⟩ := hx.2 (by omega)
          exact .inr ⟨i, j, (hS' i j hs).1, (hS' i j hs).2, hg⟩
    exact all (e + 1) (Nat.le_refl _)
/-- The number itself. -/
def IsLeast (n T : Nat) (r : Int) : Prop := IsL (fun _ => True) ((n : Int) - 1) n T r
theorem isLeast_uniq {n T : Nat} {r s : Int} (h : IsLeast n T r) (k : IsLeast n T s) : r = s := by
  obtain ⟨h1, _, h2⟩ := h
  obtain ⟨k1, _, k2⟩ := k
  have a := (h2 r.toNat trivial).symm.trans (k2 r.toNat trivial)
  have b := (h2 s.toNat trivial).symm.trans (k2 s.toNat trivial)
  omega
theorem isLeast_of {D : Nat → Prop} {B : Int} {n T : Nat} {r : Int} (hn : 1 ≤ n) (hT : T < pw (pw n)) (hD : ∀ d, d ≤ n → D d) (h : IsL D B n T r) (hB : r ≤ n) : IsLeast n T r := by
  obtain ⟨h1, _, h2⟩ := h
  have e := h2 n (hD n (Nat.le_refl _))
  have e1 := h2 (n - 1) (hD (n - 1) (by omega))
  have cap : r ≤ (n : Int) - 1 := by
    by_cases h0 : 0 ≤ r
    · have := e1.1 (can_cap hT (e.2 ⟨h0, hB⟩))
      omega
    · omega
  refine ⟨h1, cap, fun d _ => ?_⟩
  by_cases hd : d ≤ n
  · exact h2 d (hD d hd)
  · constructor
    · intro k
      have := e1.1 (can_cap hT k)
      omega
    · intro k
      exact can_mono (by omega) (e1.2 ⟨k.1, by omega⟩)
/-- Of fewer worlds no more questions are needed. -/
theorem isLeast_sub {n A B : Nat} {r s : Int} (hA : A < pw (pw n)) (hB : B < pw (pw n)) (hs : Sub A B) (h : IsLeast n B r) (k : IsLeast n A s) (h0 : 0 ≤ r) : 0 ≤ s ∧ s ≤ r := by
  have := (k.2.2 r.toNat trivial).1 (can_sub n r.toNat A B hA hB hs ((h.2.2 r.toNat trivial).2 ⟨h0, by omega⟩))
  omega
end Go.Proofs.Ytnmkifpifmdplaa.M

/- What the proof of this law needs besides: texts of ours, one behind the other. -/
import Derived.Test.YtgeokcjjkodpeaaMBase
import Derived.Test.YtgeokcjjkodpeaaPx6
import Derived.Test.YtgeokcjjkodpeaaPx7
import Derived.Test.YtgeokcjjkodpeaaPx1
import Derived.Test.YtgeokcjjkodpeaaPx2
import Derived.Test.YtgeokcjjkodpeaaPx4
import Derived.Test.YtgeokcjjkodpeaaPx3
/- The program's SyndromeOk and the reference's both tell whether a list of rows is a syndrome. -/
set_option linter.unusedVariables false
set_option linter.unusedSimpArgs false
namespace Go.Proofs.Ytgeokcjjkodpeaa.M
open Go Go.RowKit Go.Proofs.YtgeokcjjkodpeaaW.PrintWords Go.Proofs.Ytgeokcjjkodpeaa.P

theorem l1In (a b c : Int) : spec_l1In.f a b c = some (decide (b ≤ a ∧ a ≤ c)) := by
  unfold spec_l1In.f
  by_cases h : a ≥ b
  · rw [if_pos h]
    simp [h]
  · rw [if_neg h]
    simp
    intro h'
    omega
theorem rdL (s : List (List Int)) (i : Nat) : rd_L1 s (i : Int) = s.getD i [] := by simp [rd_L1]
theorem from_succ {P : Nat → Prop} {n j : Nat} (h0 : P j) (h : ∀ j', j + 1 ≤ j' → j' < n → P j') : ∀ j', j ≤ j' → j' < n → P j' := fun j' h1 h2 => by
  rcases Nat.eq_or_lt_of_le h1 with e | e
  · exact e ▸ h0
  · exact h j' e h2

def ent (s : List (List Int)) (i j : Nat) : Int := (s.getD i []).getD j 0
def RowOk (s : List (List Int)) (i : Nat) : Prop := (s.getD i []).length = s.length ∧ ent s i i = 0 ∧ ∀ j, j < s.length → ent s i j = 0 ∨ ent s i j = 1
def Small (s : List (List Int)) : Prop := 1 ≤ s.length ∧ s.length ≤ 5
def Syn (s : List (List Int)) : Prop := Small s ∧ ∀ i, i < s.length → RowOk s i
theorem rdE (s : List (List Int)) (i j : Nat) : rd (rd_L1 s (i : Int)) (j : Int) = ent s i j := by rw [rdL, rdN]; rfl

theorem spec_syn_l (s : List (List Int)) (hn : s.length < 4611686018427387904) : ∀ d i : Nat, i + d = s.length →
    Tells (fun k => spec_SyndromeOk.l0 k s (i : Int)) (Small s ∧ ∀ i', i ≤ i' → i' < s.length → RowOk s i') := by
  intro d
  induction d with
  | zero =>
    intro i hi
    refine Tells.step (fun k => by rw [spec_SyndromeOk.l0]) ?_
    refine Tells.neg (by omega) ?_
    refine Tells.bindc (l1In _ _ _) ?_
    refine Tells.dec ?_
    unfold Small
    constructor
    · intro h
      exact ⟨by omega, fun i' h1 h2 => by omega⟩
    · intro h
      omega
  | succ d ih =>
    intro i hi
    have inner : ∀ e j : Nat, j + e = s.length → (s.getD i []).length = s.length →
        Tells (fun k => spec_SyndromeOk.l1 k s (i : Int) (j : Int)) ((∀ j', j ≤ j' → j' < s.length → (ent s i j' = 0 ∨ ent s i j' = 1) ∧ (j' = i → ent s i j' = 0)) ∧ Small s ∧ ∀ i', i + 1 ≤ i' → i' < s.length → RowOk s i') := by
      intro e
      induction e with
      | zero =>
        intro j hj hl
        refine Tells.step (fun k => by rw [spec_SyndromeOk.l1]) ?_
        refine Tells.neg (by omega) ?_
        rw [w64s (by omega)]
        exact (ih (i + 1) (by omega)).iff ⟨fun h => ⟨fun j' h1 h2 => by omega, h⟩, fun h => h.2⟩
      | succ e ihe =>
        intro j hj hl
        refine Tells.step (fun k => by rw [spec_SyndromeOk.l1]) ?_
        rw [rdE]
        refine Tells.pos (by omega) ?_
        refine Tells.pos (by omega) ?_
        refine Tells.pos (by omega) ?_
        refine Tells.pos (by omega) ?_
        refine Tells.pos (by rw [rdL]; omega) ?_
        refine Tells.bindc (l1In _ _ _) ?_
        refine Tells.ite (fun hb => ?_) (fun hb => Tells.no fun h => hb ?_)
        · have hb : 0 ≤ ent s i j ∧ ent s i j ≤ 1 := of_decide_eq_true hb
          have go : (j = i → ent s i j = 0) → Tells (fun k => spec_SyndromeOk.l1 k s (i : Int) (wrap64 ((j : Int) + 1))) ((∀ j', j ≤ j' → j' < s.length → (ent s i j' = 0 ∨ ent s i j' = 1) ∧ (j' = i → ent s i j' = 0)) ∧ Small s ∧ ∀ i', i + 1 ≤ i' → i' < s.length → RowOk s i') := fun hz => by
            rw [w64s (by omega)]
            exact (ihe (j + 1) (by omega) hl).iff ⟨fun h => ⟨from_succ ⟨by omega, hz⟩ h.1, h.2⟩, fun h => ⟨fun j' h1 h2 => h.1 j' (by omega) h2, h.2⟩⟩
          refine Tells.ite (fun e => ?_) (fun e => go fun e' => absurd (by omega) e)
          refine Tells.ite (fun z => go fun _ => z) (fun z => Tells.no fun h => z ((h.1 j (Nat.le_refl _) (by omega)).2 (by omega)))
        · have := (h.1 j (Nat.le_refl _) (by omega)).1
          exact decide_eq_true (by omega)
    refine Tells.step (fun k => by rw [spec_SyndromeOk.l0]) ?_
    refine Tells.pos (by omega) ?_
    refine Tells.pos (by omega) ?_
    rw [rdL]
    refine Tells.ite (fun hl => ?_) (fun hl => Tells.no fun h => hl (by have := (h.2 i (Nat.le_refl _) (by omega)).1; omega))
    have hl : (s.getD i []).length = s.length := by omega
    refine (inner s.length 0 (by omega) hl).iff ⟨fun h => ⟨h.2.1, from_succ ⟨hl, ((h.1 i (by omega) (by omega)).2 rfl), fun j hj => (h.1 j (by omega) hj).1⟩ h.2.2⟩, fun h => ⟨fun j' _ h2 => ?_, h.1, fun i' h1 h2 => h.2 i' (by omega) h2⟩⟩
    obtain ⟨_, h3, h4⟩ := h.2 i (Nat.le_refl _) (by omega)
    exact ⟨h4 j' h2, fun e => e ▸ h3⟩
theorem spec_syn (s : List (List Int)) (hn : s.length < 4611686018427387904) : Tells (fun k => spec_SyndromeOk.f k s) (Syn s) :=
  Tells.iff (spec_syn_l s hn s.length 0 (by omega)) ⟨fun h => ⟨h.1, fun i hi => h.2 i (by omega) hi⟩, fun h => ⟨h.1, fun i _ hi => h.2 i hi⟩⟩

theorem impl_syn_l (s : List (List Int)) (hn : s.length < 4611686018427387904) : ∀ d i : Nat, i + d = s.length →
    Tells (fun k => impl_SyndromeOk.l0 k s s (s.length : Int) (i : Int)) (Small s ∧ ∀ i', i ≤ i' → i' < s.length → RowOk s i') := by
  intro d
  induction d with
  | zero =>
    intro i hi
    refine Tells.step (fun k => by rw [impl_SyndromeOk.l0]) ?_
    refine Tells.neg (by omega) ?_
    have go : (Small s ∧ ∀ i', i ≤ i' → i' < s.length → RowOk s i') ↔ 1 ≤ s.length ∧ s.length ≤ 5 := ⟨fun h => h.1, fun h => ⟨h, fun i' h1 h2 => by omega⟩⟩
    refine Tells.ite (fun h => ?_) (fun h => Tells.no fun h' => h (by have := go.1 h'; omega))
    exact Tells.dec ⟨fun h' => go.2 (by omega), fun h' => by have := go.1 h'; omega⟩
  | succ d ih =>
    intro i hi
    have inner : ∀ e j : Nat, j + e = s.length → (s.getD i []).length = s.length →
        Tells (fun k => impl_SyndromeOk.l1 k s s (s.length : Int) (i : Int) (s.getD i []) ((s.getD i []).length : Int) (j : Int)) ((∀ j', j ≤ j' → j' < s.length → (ent s i j' = 0 ∨ ent s i j' = 1)) ∧ Small s ∧ ∀ i', i + 1 ≤ i' → i' < s.length → RowOk s i') := by
      intro e
      induction e with
      | zero =>
        intro j hj hl
        refine Tells.step (fun k => by rw [impl_SyndromeOk.l1]) ?_
        refine Tells.neg (by omega) ?_
        rw [w64s (by omega)]
        exact (ih (i + 1) (by omega)).iff ⟨fun h => ⟨fun j' h1 h2 => by omega, h⟩, fun h => h.2⟩
      | succ e ihe =>
        intro j hj hl
        refine Tells.step (fun k => by rw [impl_SyndromeOk.l1]) ?_
        rw [rdN, show (s.getD i []).getD j 0 = ent s i j from rfl]
        refine Tells.pos (by omega) ?_
        refine Tells.pos (by omega) ?_
        refine Tells.pos (by omega) ?_
        have go : (ent s i j = 0 ∨ ent s i j = 1) → Tells (fun k => impl_SyndromeOk.l1 k s s (s.length : Int) (i : Int) (s.getD i []) ((s.getD i []).length : Int) (wrap64 ((j : Int) + 1))) ((∀ j', j ≤ j' → j' < s.length → (ent s i j' = 0 ∨ ent s i j' = 1)) ∧ Small s ∧ ∀ i', i + 1 ≤ i' → i' < s.length → RowOk s i') := fun hz => by
          rw [w64s (by omega)]
          exact (ihe (j + 1) (by omega) hl).iff ⟨fun h => ⟨from_succ hz h.1, h.2⟩, fun h => ⟨fun j' h1 h2 => h.1 j' (by omega) h2, h.2⟩⟩
        refine Tells.ite (fun z => go (.inl z)) (fun z => ?_)
        refine Tells.ite (fun o => go (.inr o)) (fun o => Tells.no fun h => ?_)
        rcases h.1 j (Nat.le_refl _) (by omega) with h' | h'
        · exact z h'
        · exact o h'
    have hj1 : ∀ b : Bool, (b = true → ¬ RowOk s i) → (b = false → (s.getD i []).length = s.length ∧ ent s i i = 0) →
        Tells (fun k => impl_SyndromeOk.j1 k s (s.getD i []) s (s.length : Int) (i : Int) b) (Small s ∧ ∀ i', i ≤ i' → i' < s.length → RowOk s i') := by
      intro b hb1 hb0
      refine Tells.step (fun k => by rw [impl_SyndromeOk.j1]) ?_
      refine Tells.ite (fun h => Tells.no fun h' => hb1 h (h'.2 i (Nat.le_refl _) (by omega))) (fun h => ?_)
      obtain ⟨hl, h0⟩ := hb0 (by simpa using h)
      exact (inner s.length 0 (by omega) hl).iff ⟨fun h => ⟨h.2.1, from_succ ⟨hl, h0, fun j hj => h.1 j (by omega) hj⟩ h.2.2⟩, fun h => ⟨fun j' _ h2 => (h.2 i (Nat.le_refl _) (by omega)).2.2 j' h2, h.1, fun i' h1 h2 => h.2 i' (by omega) h2⟩⟩
    refine Tells.step (fun k => by rw [impl_SyndromeOk.l0]) ?_
    rw [rdE, rdL]
    refine Tells.pos (by omega) ?_
    refine Tells.pos (by omega) ?_
    refine Tells.pos (by omega) ?_
    refine Tells.ite (fun hl => ?_) (fun hl => hj1 true (fun _ h => hl (by have := h.1; omega)) (fun h => by cases h))
    refine Tells.pos (by omega) ?_
    refine hj1 _ (fun h h' => ?_) (fun h => ⟨by omega, ?_⟩)
    · simp [h'.2.1] at h
    · simpa using h
theorem impl_syn (s : List (List Int)) (hn : s.length < 4611686018427387904) : Tells (fun k => impl_SyndromeOk.f k s) (Syn s) :=
  Tells.iff (impl_syn_l s hn s.length 0 (by omega)) ⟨fun h => ⟨h.1, fun i hi => h.2 i (by omega) hi⟩, fun h => ⟨h.1, fun i _ hi => h.2 i hi⟩⟩

open Classical in
/-- Is it a syndrome? -/
noncomputable def synB (s : List (List Int)) : Bool := decide (Syn s)
theorem synB_iff (s : List (List Int)) : synB s = true ↔ Syn s := by simp [synB]
theorem spec_synE (s : List (List Int)) (hn : s.length < 4611686018427387904) : Ev (fun k => spec_SyndromeOk.f k s) (synB s) := (spec_syn s hn).ev (synB_iff s)
theorem impl_synE (s : List (List Int)) (hn : s.length < 4611686018427387904) : Ev (fun k => impl_SyndromeOk.f k s) (synB s) := (impl_syn s hn).ev (synB_iff s)
end Go.Proofs.Ytgeokcjjkodpeaa.M

/- MadeSyndrome of the reference, and what it makes. -/
set_option linter.unusedVariables false
set_option linter.unusedSimpArgs false
namespace Go.Proofs.Ytgeokcjjkodpeaa.M
open Go Go.RowKit Go.Proofs.YtgeokcjjkodpeaaW.PrintWords Go.Proofs.Ytgeokcjjkodpeaa.P

def rowStep (m i : Nat) (st : List Int × Nat) (j : Nat) : List Int × Nat :=
  if j = i then st else if bitN m i = 0 then (st.1.set j (bitN m j : Int), st.2) else (st.1.set j ((st.2 % 2 : Nat) : Int), st.2 / 2)
def rowAll (m n i w : Nat) : List Int × Nat := (List.range' 0 n).foldl (rowStep m i) (List.replicate n 0, w)
def allStep (m n : Nat) (st : List (List Int) × Nat) (i : Nat) : List (List Int) × Nat := (st.1 ++ [(rowAll m n i st.2).1], (rowAll m n i st.2).2)
def made (n m w : Nat) : List (List Int) := ((List.range' 0 n).foldl (allStep m n) ([], w)).1

theorem rowStep_len (m i : Nat) (st : List Int × Nat) (j : Nat) : (rowStep m i st j).1.length = st.1.length := by
  unfold rowStep
  split
  · rfl
  · split <;> simp
theorem rowStep_le (m i : Nat) (st : List Int × Nat) (j : Nat) : (rowStep m i st j).2 ≤ st.2 := by
  unfold rowStep
  split
  · exact Nat.le_refl _
  · split
    · exact Nat.le_refl _
    · exact Nat.div_le_self _ _
theorem rows_len (m i : Nat) (l : List Nat) : ∀ st : List Int × Nat, (l.foldl (rowStep m i) st).1.length = st.1.length ∧ (l.foldl (rowStep m i) st).2 ≤ st.2 := by
  induction l with
  | nil => exact fun st => ⟨rfl, Nat.le_refl _⟩
  | cons j l ih =>
    intro st
    have := ih (rowStep m i st j)
    exact ⟨this.1.trans (rowStep_len m i st j), Nat.le_trans this.2 (rowStep_le m i st j)⟩
theorem rowAll_len (m n i w : Nat) : (rowAll m n i w).1.length = n ∧ (rowAll m n i w).2 ≤ w := by
  have := rows_len m i (List.range' 0 n) (List.replicate n 0, w)
  simpa [rowAll] using this
/-- What entry j of row i says. -/
def Entry (m i j : Nat) (x : Int) : Prop := (j = i → x = 0) ∧ (j ≠ i → bitN m i = 0 → x = (bitN m j : Int)) ∧ (x = 0 ∨ x = 1)
theorem row_entries (m n i : Nat) : ∀ d j (st : List Int × Nat), j + d = n → st.1.length = n → (∀ j', j' < j → Entry m i j' (st.1.getD j' 0)) → (∀ j', j ≤ j' → st.1.getD j' 0 = 0) →
    ∀ j', j' < n → Entry m i j' (((List.range' j d).foldl (rowStep m i) st).1.getD j' 0) := by
  intro d
  induction d with
  | zero =>
    intro j st hj hl h1 h2 j' hj'
    exact h1 j' (by omega)
  | succ d ih =>
    intro j st hj hl h1 h2
    rw [List.range'_succ, List.foldl_cons]
    have hjl : j < st.1.length := by omega
    have keep : ∀ (v : Int) j', j' ≠ j → (st.1.set j v).getD j' 0 = st.1.getD j' 0 := fun v j' hne => by
      simp [List.getD_eq_getElem?_getD, List.getElem?_set_ne (Ne.symm hne)]
    have here : ∀ v : Int, (st.1.set j v).getD j 0 = v := fun v => by
      simp [List.getD_eq_getElem?_getD, List.getElem?_set_self hjl]
    have put : ∀ (v : Int) (w : Nat), Entry m i j v → ∀ j', j' < n → Entry m i j' (((List.range' (j + 1) d).foldl (rowStep m i) (st.1.set j v, w)).1.getD j' 0) := fun v w hv => by
      refine ih (j + 1) _ (by omega) (by simpa using hl) (fun j' hj' => ?_) (fun j' hj' => ?_)
      · by_cases e : j' = j
        · subst e
          show Entry m i j' ((st.1.set j' v).getD j' 0)
          rw [here]
          exact hv
        · show Entry m i j' ((st.1.set j v).getD j' 0)
          rw [keep v j' e]
          exact h1 j' (by omega)
      · show (st.1.set j v).getD j' 0 = 0
        rw [keep v j' (by omega)]
        exact h2 j' (by omega)
    unfold rowStep
    by_cases e : j = i
    · rw [if_pos e]
      refine ih (j + 1) st (by omega) hl (fun j' hj' => ?_) (fun j' hj' => h2 j' (by omega))
      by_cases e' : j' = j
      · rw [e', h2 j (Nat.le_refl _)]
        exact ⟨fun _ => rfl, fun h => absurd e h, .inl rfl⟩
      · exact h1 j' (by omega)
    · rw [if_neg e]
      by_cases z : bitN m i = 0
      · rw [if_pos z]
        exact put _ _ ⟨fun h => absurd h e, fun _ _ => rfl, by have := bitN_01 m j; omega⟩
      · rw [if_neg z]
        exact put _ _ ⟨fun h => absurd h e, fun _ h => absurd h z, by omega⟩
theorem rowAll_entries (m n i w : Nat) : ∀ j, j < n → Entry m i j ((rowAll m n i w).1.getD j 0) :=
  row_entries m n i n 0 _ (by omega) (by simp) (fun j' hj' => by omega) (fun j' _ => by
    by_cases h : j' < n
    · simp [List.getD_eq_getElem?_getD, List.getElem?_replicate, h]
    · simp [List.getD_eq_getElem?_getD, List.getElem?_replicate, h])
/-- A row as it is made. -/
def MadeRow (n m i : Nat) (r : List Int) : Prop := r.length = n ∧ ∀ j, j < n → Entry m i j (r.getD j 0)
theorem all_rows (n m : Nat) : ∀ d i (st : List (List Int) × Nat), i + d = n → st.1.length = i → (∀ i', i' < i → MadeRow n m i' (st.1.getD i' [])) →
    ((List.range' i d).foldl (allStep m n) st).1.length = n ∧ ∀ i', i' < n → MadeRow n m i' (((List.range' i d).foldl (allStep m n) st).1.getD i' []) := by
  intro d
  induction d with
  | zero =>
    intro i st hi hl h
    exact ⟨by show st.1.length = n; omega, fun i' hi' => h i' (by omega)⟩
  | succ d ih =>
    intro i st hi hl h
    rw [List.range'_succ, List.foldl_cons]
    refine ih (i + 1) _ (by omega) (by simp [allStep, hl]) (fun i' hi' => ?_)
    show MadeRow n m i' ((st.1 ++ [(rowAll m n i st.2).1]).getD i' [])
    by_cases e : i' = i
    · subst e
      rw [List.getD_eq_getElem?_getD, List.getElem?_append_right (by omega), hl, Nat.sub_self]
      exact ⟨(rowAll_len m n i' st.2).1, rowAll_entries m n i' st.2⟩
    · rw [List.getD_eq_getElem?_getD, List.getElem?_append_left (by omega), ← List.getD_eq_getElem?_getD]
      exact h i' (by omega)
theorem made_rows (n m w : Nat) : (made n m w).length = n ∧ ∀ i, i < n → MadeRow n m i ((made n m w).getD i []) :=
  all_rows n m n 0 ([], w) (by omega) rfl (fun i' h => by omega)
theorem made_syn (n m w : Nat) (h1 : 1 ≤ n) (h5 : n ≤ 5) : Syn (made n m w) := by
  obtain ⟨hl, hr⟩ := made_rows n m w
  refine ⟨⟨by omega, by omega⟩, fun i hi => ?_⟩
  obtain ⟨h, he⟩ := hr i (by omega)
  exact ⟨by omega, (he i (by omega)).1 rfl, fun j hj => (he j (by omega)).2.2⟩
theorem spec_made_l (n m : Nat) (hn : n ≤ 5) (hm : m < 32) : ∀ d i (w : Nat) (acc : List (List Int)), i + d = n → acc.length = i → w < 9223372036854775808 →
    Ev (fun k => spec_MadeSyndrome.l0 k (n : Int) (m : Int) (w : Int) acc (i : Int)) ((List.range' i d).foldl (allStep m n) (acc, w)).1 := by
  intro d
  induction d with
  | zero =>
    intro i w acc hi ha hw
    refine Ev.step (fun k => by rw [spec_MadeSyndrome.l0]) ?_
    exact ev_neg (by omega) (ev_ret rfl)
  | succ d ih =>
    intro i w acc hi ha hw
    have inner : ∀ e j (row : List Int) (w' : Nat), j + e = n → row.length = n → w' < 9223372036854775808 →
        Ev (fun k => spec_MadeSyndrome.l1 k (n : Int) (m : Int) (w' : Int) acc (i : Int) row (j : Int))
          ((List.range' (i + 1) d).foldl (allStep m n) (acc ++ [((List.range' j e).foldl (rowStep m i) (row, w')).1], ((List.range' j e).foldl (rowStep m i) (row, w')).2)).1 := by
      intro e
      induction e with
      | zero =>
        intro j row w' hj hr hw'
        refine Ev.step (fun k => by rw [spec_MadeSyndrome.l1]) ?_
        refine ev_neg (by omega) (ev_pos (by omega) ?_)
        rw [w64s (by omega)]
        exact ih (i + 1) w' (acc ++ [row]) (by omega) (by simp [ha]) hw'
      | succ e ihe =>
        intro j row w' hj hr hw'
        refine Ev.step (fun k => by rw [spec_MadeSyndrome.l1]) ?_
        rw [shr_tmod2 m i (by omega), shr_tmod2 m j (by omega), w64s (show j < 9223372036854775807 by omega), Int.toNat_natCast, tmod2, tdiv2, w64 (by omega) (by omega)]
        refine ev_pos (by omega) ?_
        rw [List.range'_succ, List.foldl_cons]
        by_cases e1 : j = i
        · refine ev_pos (by omega) ?_
          rw [show rowStep m i (row, w') j = (row, w') by unfold rowStep; rw [if_pos e1]]
          exact ihe (j + 1) row w' (by omega) hr hw'
        · refine ev_neg (by omega) (ev_pos (by omega) ?_)
          by_cases z : bitN m i = 0
          · refine ev_pos (by omega) (ev_pos (by omega) (ev_pos (by omega) ?_))
            rw [show rowStep m i (row, w') j = (row.set j (bitN m j : Int), w') by unfold rowStep; rw [if_neg e1, if_pos z]]
            exact ihe (j + 1) _ w' (by omega) (by simpa using hr) hw'
          · refine ev_neg (by omega) (ev_pos (by omega) (ev_pos (by omega) ?_))
            rw [show rowStep m i (row, w') j = (row.set j ((w' % 2 : Nat) : Int), w' / 2) by unfold rowStep; rw [if_neg e1, if_neg z]]
            exact ihe (j + 1) _ (w' / 2) (by omega) (by simpa using hr) (by omega)
    refine Ev.step (fun k => by rw [spec_MadeSyndrome.l0]) ?_
    rw [Int.toNat_natCast]
    refine ev_pos (by omega) (ev_pos (by omega) (ev_pos (by omega) ?_))
    rw [List.range'_succ, List.foldl_cons]
    exact inner n 0 _ w (by omega) (by simp) hw
def madeF (n m w : Int) : List (List Int) := if 1 ≤ n ∧ n ≤ 5 ∧ 0 ≤ m ∧ m < (pw n.toNat : Int) ∧ 0 ≤ w then made n.toNat m.toNat w.toNat else []
theorem spec_madeE (n m w : Int) (hw : w < 9223372036854775808) : Ev (fun k => spec_MadeSyndrome.f k n m w) (madeF n m w) := by
  unfold spec_MadeSyndrome.f
  refine ev_bindc (a := []) rfl ?_
  refine ev_bindc (l1In _ _ _) ?_
  have no : ¬ (1 ≤ n ∧ n ≤ 5 ∧ 0 ≤ m ∧ m < (pw n.toNat : Int) ∧ 0 ≤ w) → Ev (fun k => spec_MadeSyndrome.j0 k n m w [] true) (madeF n m w) := fun h => by
    refine Ev.step (fun k => by rw [spec_MadeSyndrome.j0]) (ev_pos rfl (ev_ret ?_))
    unfold madeF
    rw [if_neg h]
  by_cases hn : 1 ≤ n ∧ n ≤ 5
  · refine ev_pos (decide_eq_true hn) (ev_pos (by omega) (ev_bindc (l1In _ _ _) ?_))
    obtain ⟨n, rfl⟩ : ∃ n' : Nat, n = (n' : Int) := ⟨n.toNat, by omega⟩
    have hp := pw5 (n := n) (by omega)
    rw [shl_nat n (by omega), w64 (by omega) (by omega)]
    rw [Int.toNat_natCast] at no
    by_cases hm : 0 ≤ m ∧ m ≤ (pw n : Int) - 1
    · refine ev_pos (decide_eq_true hm) ?_
      by_cases h0 : w < 0
      · rw [decide_eq_true h0]
        exact no fun h => by omega
      · rw [decide_eq_false h0]
        refine Ev.step (fun k => by rw [spec_MadeSyndrome.j0]) (ev_neg (by decide) ?_)
        obtain ⟨m, rfl⟩ : ∃ m' : Nat, m = (m' : Int) := ⟨m.toNat, by omega⟩
        obtain ⟨w, rfl⟩ : ∃ w' : Nat, w = (w' : Int) := ⟨w.toNat, by omega⟩
        unfold madeF
        rw [Int.toNat_natCast, Int.toNat_natCast, Int.toNat_natCast, if_pos ⟨by omega, by omega, by omega, by omega, by omega⟩]
        exact spec_made_l n m (by omega) (by omega) n 0 w [] (by omega) rfl (by omega)
    · exact ev_neg (fun h => hm (of_decide_eq_true h)) (no fun h => hm ⟨by omega, by omega⟩)
  · exact ev_neg (fun h => hn (of_decide_eq_true h)) (no fun h => hn ⟨by omega, by omega⟩)
end Go.Proofs.Ytgeokcjjkodpeaa.M

/- The program's MadeSyndrome makes the rows that the reference's makes. -/
set_option linter.unusedVariables false
set_option linter.unusedSimpArgs false
namespace Go.Proofs.Ytgeokcjjkodpeaa.M
open Go Go.RowKit Go.Proofs.YtgeokcjjkodpeaaW.PrintWords Go.Proofs.Ytgeokcjjkodpeaa.P

theorem impl_made_l (n m : Nat) (hn : n ≤ 5) (hm : m < 32) : ∀ d i (w : Nat) (acc : List (List Int)), i + d = n → acc.length = i → w < 9223372036854775808 →
    Ev (fun k => impl_MadeSyndrome.l0 k (n : Int) (m : Int) (w : Int) acc (n : Int) (i : Int)) ((List.range' i d).foldl (allStep m n) (acc, w)).1 := by
  intro d
  induction d with
  | zero =>
    intro i w acc hi ha hw
    refine Ev.step (fun k => by rw [impl_MadeSyndrome.l0]) ?_
    exact ev_neg (by omega) (ev_ret rfl)
  | succ d ih =>
    intro i w acc hi ha hw
    have inner : ∀ e j (row : List Int) (w' : Nat), j + e = n → row.length = n → w' < 9223372036854775808 →
        Ev (fun k => impl_MadeSyndrome.l1 k (n : Int) (m : Int) (w' : Int) acc (i : Int) row (n : Int) (i : Int) (n : Int) (j : Int))
          ((List.range' (i + 1) d).foldl (allStep m n) (acc ++ [((List.range' j e).foldl (rowStep m i) (row, w')).1], ((List.range' j e).foldl (rowStep m i) (row, w')).2)).1 := by
      intro e
      induction e with
      | zero =>
        intro j row w' hj hr hw'
        refine Ev.step (fun k => by rw [impl_MadeSyndrome.l1]) ?_
        refine ev_neg (by omega) ?_
        refine ev_pos (by omega) ?_
        rw [w64s (by omega)]
        exact ih (i + 1) w' (acc ++ [row]) (by omega) (by simp [ha]) hw'
      | succ e ihe =>
        intro j row w' hj hr hw'
        refine Ev.step (fun k => by rw [impl_MadeSyndrome.l1]) ?_
        rw [shr_and1 m i (by omega) (by omega), shr_and1 m j (by omega) (by omega), and1 w' (by omega), w64s (show j < 9223372036854775807 by omega), Int.toNat_natCast, tdiv2, w64 (by omega) (by omega)]
        refine ev_pos (by omega) ?_
        rw [List.range'_succ, List.foldl_cons]
        by_cases e1 : i = j
        · refine ev_pos (by omega) ?_
          rw [show rowStep m i (row, w') j = (row, w') by unfold rowStep; rw [if_pos e1.symm]]
          exact ihe (j + 1) row w' (by omega) hr hw'
        · refine ev_neg (by omega) ?_
          refine ev_pos (by omega) ?_
          have e1' : ¬ j = i := fun h => e1 h.symm
          by_cases z : bitN m i = 0
          · refine ev_pos (by omega) ?_
            refine ev_pos (by omega) ?_
            refine ev_pos (by omega) ?_
            rw [show rowStep m i (row, w') j = (row.set j (bitN m j : Int), w') by unfold rowStep; rw [if_neg e1', if_pos z]]
            exact ihe (j + 1) _ w' (by omega) (by simpa using hr) hw'
          · refine ev_neg (by omega) ?_
            refine ev_pos (by omega) ?_
            refine ev_pos (by omega) ?_
            rw [show rowStep m i (row, w') j = (row.set j ((w' % 2 : Nat) : Int), w' / 2) by unfold rowStep; rw [if_neg e1', if_neg z]]
            exact ihe (j + 1) _ (w' / 2) (by omega) (by simpa using hr) (by omega)
    refine Ev.step (fun k => by rw [impl_MadeSyndrome.l0]) ?_
    rw [Int.toNat_natCast]
    refine ev_pos (by omega) ?_
    refine ev_pos (by omega) ?_
    refine ev_pos (by omega) ?_
    refine ev_bindc (a := List.replicate n 0) rfl ?_
    rw [List.range'_succ, List.foldl_cons]
    rw [List.length_replicate]
    exact inner n 0 _ w (by omega) (by simp) hw
theorem impl_madeE (n m w : Int) (hw : w < 9223372036854775808) : Ev (fun k => impl_MadeSyndrome.f k n m w) (madeF n m w) := by
  unfold impl_MadeSyndrome.f
  have no : ¬ (1 ≤ n ∧ n ≤ 5 ∧ 0 ≤ m ∧ m < (pw n.toNat : Int) ∧ 0 ≤ w) → Ev (fun k => impl_MadeSyndrome.j0 k n m w true) (madeF n m w) := fun h => by
    refine Ev.step (fun k => by rw [impl_MadeSyndrome.j0]) ?_
    refine ev_pos rfl (ev_ret ?_)
    unfold madeF
    rw [if_neg h]
  by_cases h1 : n < 1
  · exact ev_pos h1 (no fun h => by omega)
  refine ev_neg h1 ?_
  by_cases h5 : n > 5
  · exact ev_pos h5 (no fun h => by omega)
  refine ev_neg h5 ?_
  by_cases hm : m < 0
  · exact ev_pos hm (no fun h => by omega)
  refine ev_neg hm ?_
  refine ev_pos (by omega) ?_
  obtain ⟨n, rfl⟩ : ∃ n' : Nat, n = (n' : Int) := ⟨n.toNat, by omega⟩
  have hp := pw5 (n := n) (by omega)
  rw [shl_nat n (by omega)]
  rw [Int.toNat_natCast] at no
  by_cases hm2 : m ≥ (pw n : Int)
  · exact ev_pos hm2 (no fun h => by omega)
  refine ev_neg hm2 ?_
  by_cases h0 : w < 0
  · rw [decide_eq_true h0]
    exact no fun h => by omega
  · rw [decide_eq_false h0]
    refine Ev.step (fun k => by rw [impl_MadeSyndrome.j0]) ?_
    refine ev_neg (by decide) ?_
    obtain ⟨m, rfl⟩ : ∃ m' : Nat, m = (m' : Int) := ⟨m.toNat, by omega⟩
    obtain ⟨w, rfl⟩ : ∃ w' : Nat, w = (w' : Int) := ⟨w.toNat, by omega⟩
    unfold madeF
    rw [Int.toNat_natCast, Int.toNat_natCast, Int.toNat_natCast, if_pos ⟨by omega, by omega, by omega, by omega, by omega⟩]
    exact impl_made_l n m (by omega) (by omega) n 0 w [] (by omega) rfl (by omega)
end Go.Proofs.Ytgeokcjjkodpeaa.M

/- Lists by their entries. -/
set_option linter.unusedVariables false
set_option linter.unusedSimpArgs false
namespace Go.Proofs.Ytgeokcjjkodpeaa.M
open Go Go.RowKit Go.Proofs.YtgeokcjjkodpeaaW.PrintWords
theorem getD_lt {α : Type} (l : List α) (d : α) (j : Nat) (h : j < l.length) : l.getD j d = l[j] := by
  rw [List.getD_eq_getElem?_getD, List.getElem?_eq_getElem h]
  rfl
theorem ext_getD {α : Type} (d : α) (x l : List α) (hl : x.length = l.length) (h : ∀ j, j < l.length → x.getD j d = l.getD j d) : x = l := by
  refine List.ext_getElem hl fun j h1 h2 => ?_
  have := h j h2
  rwa [getD_lt _ _ _ h1, getD_lt _ _ _ h2] at this
theorem set_getD {α : Type} (d : α) (x : List α) (i : Nat) (v : α) (hi : i < x.length) (j : Nat) : (x.set i v).getD j d = if j = i then v else x.getD j d := by
  by_cases e : j = i
  · subst e
    rw [if_pos rfl, List.getD_eq_getElem?_getD, List.getElem?_set_self hi]
    rfl
  · rw [if_neg e, List.getD_eq_getElem?_getD, List.getElem?_set_ne (Ne.symm e), ← List.getD_eq_getElem?_getD]
theorem getD_mem {α : Type} (l : List α) (d : α) (j : Nat) (h : j < l.length) : l.getD j d ∈ l := by
  rw [getD_lt l d j h]
  exact List.getElem_mem h
theorem getD_all {α : Type} (l : List α) (d : α) (P : α → Prop) (hd : P d) (h : ∀ x ∈ l, P x) (j : Nat) : P (l.getD j d) := by
  by_cases hj : j < l.length
  · exact h _ (getD_mem l d j hj)
  · rw [List.getD_eq_getElem?_getD, List.getElem?_eq_none (by omega)]
    exact hd
def castL (l : List Nat) : List Int := l.map fun w : Nat => (w : Int)
theorem castL_len (l : List Nat) : (castL l).length = l.length := by simp [castL]
theorem castL_getD (l : List Nat) (i : Nat) : (castL l).getD i 0 = ((l.getD i 0 : Nat) : Int) := by
  unfold castL
  by_cases h : i < l.length
  · rw [getD_lt _ _ _ (by simpa using h), getD_lt _ _ _ h, List.getElem_map]
  · rw [List.getD_eq_getElem?_getD, List.getElem?_eq_none (by simpa using h), List.getD_eq_getElem?_getD, List.getElem?_eq_none (by omega)]
    rfl
end Go.Proofs.Ytgeokcjjkodpeaa.M

/- Rows of rows of whole numbers, compared. -/
set_option linter.unusedVariables false
set_option linter.unusedSimpArgs false
namespace Go.Proofs.Ytgeokcjjkodpeaa.M
open Go Go.RowKit Go.Proofs.YtgeokcjjkodpeaaW.PrintWords Go.Proofs.Ytgeokcjjkodpeaa.P
theorem eq_int_l (l : List Int) (hn : l.length ≤ 1048576) : ∀ d i, i + d = l.length → Ev (fun k => laws_eqIntS.l0 k l l (i : Int)) true := by
  intro d
  induction d with
  | zero =>
    intro i hi
    refine Ev.step (fun k => by rw [laws_eqIntS.l0]) ?_
    exact ev_neg (by omega) (ev_ret rfl)
  | succ d ih =>
    intro i hi
    refine Ev.step (fun k => by rw [laws_eqIntS.l0]) ?_
    rw [w64s (by omega)]
    refine ev_pos (by omega) ?_
    refine ev_pos (by omega) ?_
    refine ev_pos (by omega) ?_
    exact ev_pos rfl (ih (i + 1) (by omega))
theorem eq_int (l : List Int) (hn : l.length ≤ 1048576) : Ev (fun k => laws_eqIntS.f k l l) true := by
  unfold laws_eqIntS.f
  exact ev_pos rfl (eq_int_l l hn l.length 0 (by omega))
theorem eq_rows_l (l : List (List Int)) (hn : l.length ≤ 1048576) (hr : ∀ j, (l.getD j []).length ≤ 1048576) : ∀ d i, i + d = l.length → Ev (fun k => laws_eqIntSS.l0 k l l (i : Int)) true := by
  intro d
  induction d with
  | zero =>
    intro i hi
    refine Ev.step (fun k => by rw [laws_eqIntSS.l0]) ?_
    exact ev_neg (by omega) (ev_ret rfl)
  | succ d ih =>
    intro i hi
    refine Ev.step (fun k => by rw [laws_eqIntSS.l0]) ?_
    rw [w64s (by omega), rdL]
    refine ev_pos (by omega) ?_
    refine ev_pos (by omega) ?_
    refine ev_pos (by omega) ?_
    refine ev_bind (eq_int _ (hr i)) ?_
    exact ev_pos rfl (ih (i + 1) (by omega))
theorem eq_rows (l : List (List Int)) (hn : l.length ≤ 1048576) (hr : ∀ j, (l.getD j []).length ≤ 1048576) : Ev (fun k => laws_eqIntSS.f k l l) true := by
  unfold laws_eqIntSS.f
  exact ev_pos rfl (eq_rows_l l hn hr l.length 0 (by omega))
end Go.Proofs.Ytgeokcjjkodpeaa.M

/- The exact laws' helpers over whole numbers that mark a result and look whether it is still held. -/
set_option linter.unusedVariables false
set_option linter.unusedSimpArgs false
namespace Go.Proofs.Ytgeokcjjkodpeaa.M
open Go Go.RowKit Go.Proofs.YtgeokcjjkodpeaaW.PrintWords Go.Proofs.Ytgeokcjjkodpeaa.P
def markedI (n : Nat) (a : Int) : List Int := (List.range n).map fun j : Nat => a + (j : Int)
theorem markedI_len (n : Nat) (a : Int) : (markedI n a).length = n := by simp [markedI]
theorem markedI_getD (n : Nat) (a : Int) (j : Nat) (h : j < n) : (markedI n a).getD j 0 = a + (j : Int) := by
  rw [getD_lt _ _ _ (by rw [markedI_len]; exact h)]
  simp [markedI]
theorem mark_int_l (n : Nat) (a : Int) (hn : n ≤ 1048576) (h0 : 0 ≤ a) (h1 : a ≤ 4000000000000000000) : ∀ d i (x : List Int), i + d = n → x.length = n → (∀ j, j < i → x.getD j 0 = a + (j : Int)) →
    Ev (fun k => laws_markIntS.l0 k x (a + (i : Int)) (i : Int)) (a + (n : Int), markedI n a) := by
  intro d
  induction d with
  | zero =>
    intro i x hi hx h
    obtain rfl : i = n := by omega
    refine Ev.step (fun k => by rw [laws_markIntS.l0]) ?_
    refine ev_neg (by omega) (ev_ret ?_)
    rw [ext_getD 0 x (markedI i a) (by rw [markedI_len, hx]) fun j hj => by
      rw [markedI_len] at hj
      rw [h j hj, markedI_getD _ _ _ hj]]
  | succ d ih =>
    intro i x hi hx h
    refine Ev.step (fun k => by rw [laws_markIntS.l0]) ?_
    rw [w64s (by omega), w64 (x := a + (i : Int) + 1) (by omega) (by omega), Int.toNat_natCast, show a + (i : Int) + 1 = a + ((i + 1 : Nat) : Int) by omega]
    refine ev_pos (by omega) ?_
    refine ev_pos (by omega) ?_
    refine ih (i + 1) _ (by omega) (by simpa using hx) fun j hj => ?_
    rw [set_getD 0 x i _ (by omega)]
    split
    · rename_i e
      rw [e]
    · exact h j (by omega)
theorem mark_int (x : List Int) (a : Int) (hn : x.length ≤ 1048576) (h0 : 0 ≤ a) (h1 : a ≤ 4000000000000000000) : Ev (fun k => laws_markIntS.f k x a) (a + (x.length : Int), markedI x.length a) := by
  unfold laws_markIntS.f
  have := mark_int_l x.length a hn h0 h1 x.length 0 x (by omega) rfl (fun j hj => by omega)
  simpa using this
theorem held_int_l (n : Nat) (a : Int) (hn : n ≤ 1048576) (h0 : 0 ≤ a) (h1 : a ≤ 4000000000000000000) : ∀ d i, i + d = n → Ev (fun k => laws_heldIntS.l0 k (markedI n a) (a + (i : Int)) (i : Int)) (a + (n : Int)) := by
  intro d
  induction d with
  | zero =>
    intro i hi
    obtain rfl : i = n := by omega
    refine Ev.step (fun k => by rw [laws_heldIntS.l0]) ?_
    rw [markedI_len]
    exact ev_neg (by omega) (ev_ret rfl)
  | succ d ih =>
    intro i hi
    refine Ev.step (fun k => by rw [laws_heldIntS.l0]) ?_
    rw [markedI_len, rdN, markedI_getD n a i (by omega), w64s (by omega), w64 (x := a + (i : Int) + 1) (by omega) (by omega), show a + (i : Int) + 1 = a + ((i + 1 : Nat) : Int) by omega]
    refine ev_pos (by omega) ?_
    refine ev_pos (by omega) ?_
    refine ev_pos rfl ?_
    exact ih (i + 1) (by omega)
theorem held_int (n : Nat) (a : Int) (hn : n ≤ 1048576) (h0 : 0 ≤ a) (h1 : a ≤ 4000000000000000000) : Ev (fun k => laws_heldIntS.f k (markedI n a) a) (a + (n : Int)) := by
  unfold laws_heldIntS.f
  have := held_int_l n a hn h0 h1 n 0 (by omega)
  simpa using this
theorem eq_ints_l (l : List Int) (hn : l.length ≤ 1048576) : ∀ d i, i + d = l.length → Ev (fun k => laws_eqIntS.l0 k l l (i : Int)) true := by
  intro d
  induction d with
  | zero =>
    intro i hi
    refine Ev.step (fun k => by rw [laws_eqIntS.l0]) ?_
    exact ev_neg (by omega) (ev_ret rfl)
  | succ d ih =>
    intro i hi
    refine Ev.step (fun k => by rw [laws_eqIntS.l0]) ?_
    rw [w64s (by omega)]
    refine ev_pos (by omega) ?_
    refine ev_pos (by omega) ?_
    refine ev_pos (by omega) ?_
    exact ev_pos rfl (ih (i + 1) (by omega))
theorem eq_ints (l : List Int) (hn : l.length ≤ 1048576) : Ev (fun k => laws_eqIntS.f k l l) true := by
  unfold laws_eqIntS.f
  exact ev_pos rfl (eq_ints_l l hn l.length 0 (by omega))
end Go.Proofs.Ytgeokcjjkodpeaa.M

/- Rows of rows of whole numbers, marked. -/
set_option linter.unusedVariables false
set_option linter.unusedSimpArgs false
namespace Go.Proofs.Ytgeokcjjkodpeaa.M
open Go Go.RowKit Go.Proofs.YtgeokcjjkodpeaaW.PrintWords Go.Proofs.Ytgeokcjjkodpeaa.P
def endR : List (List Int) → Int → Int
  | [], a => a
  | r :: s, a => endR s (a + (r.length : Int))
def markedR : List (List Int) → Int → List (List Int)
  | [], _ => []
  | r :: s, a => markedI r.length a :: markedR s (a + (r.length : Int))
theorem endR_le : ∀ (s : List (List Int)) (a : Int), a ≤ endR s a
  | [], _ => Int.le_refl _
  | r :: s, a => by
    have := endR_le s (a + (r.length : Int))
    unfold endR
    omega
theorem endR_bound (B : Nat) : ∀ (s : List (List Int)) (a : Int), (∀ r ∈ s, r.length ≤ B) → endR s a ≤ a + (B * s.length : Nat)
  | [], a, _ => by simp [endR]
  | r :: s, a, h => by
    have h1 := h r (by simp)
    have h2 := endR_bound B s (a + (r.length : Int)) fun x hx => h x (by simp [hx])
    unfold endR
    rw [List.length_cons, Nat.mul_succ]
    omega
theorem at_midR {α : Type} (z : α) (p : List α) (c : α) (s : List α) : (p ++ c :: s).getD p.length z = c := by
  rw [List.getD_eq_getElem?_getD, List.getElem?_append_right (Nat.le_refl _), Nat.sub_self]
  rfl
theorem set_midR {α : Type} (p : List α) (c x : α) (s : List α) : (p ++ c :: s).set p.length x = p ++ x :: s := by
  rw [List.set_append_right _ _ (Nat.le_refl _), Nat.sub_self]
  rfl
theorem step_midR {α : Type} (p : List α) (c : α) (s : List α) : p ++ c :: s = (p ++ [c]) ++ s := by simp
theorem mark_rows_l : ∀ (s p : List (List Int)) (a : Int), 0 ≤ a → endR s a ≤ 4000000000000000000 → p.length + s.length ≤ 1000000000 → (∀ r ∈ s, r.length ≤ 1048576) → Ev (fun k => laws_markIntSS.l0 k (p ++ s) a (p.length : Int)) (endR s a, p ++ markedR s a) := by
  intro s
  induction s with
  | nil =>
    intro p a h0 he hl hr
    refine Ev.step (fun k => by rw [laws_markIntSS.l0]) ?_
    exact ev_neg (by simp) (ev_ret rfl)
  | cons r s ih =>
    intro p a h0 he hl hr
    rw [List.length_cons] at hl
    have h1 := hr r (by simp)
    unfold endR at he
    have h2 := endR_le s (a + (r.length : Int))
    have := ih (p ++ [markedI r.length a]) (a + (r.length : Int)) (by omega) he (by simp; omega) fun x hx => hr x (by simp [hx])
    refine Ev.step (fun k => by rw [laws_markIntSS.l0]) ?_
    refine ev_pos (by simp; omega) ?_
    refine ev_pos (by omega) ?_
    rw [Int.toNat_natCast, at_midR]
    refine ev_bind (mark_int r a h1 h0 (by omega)) ?_
    dsimp only
    rw [set_midR, w64s (by omega), step_midR, show p.length + 1 = (p ++ [markedI r.length a]).length by simp]
    refine ev_eq this ?_
    rw [List.append_assoc]
    rfl
theorem mark_rows (s : List (List Int)) (h : endR s 1 ≤ 4000000000000000000) (hl : s.length ≤ 1000000000) (hr : ∀ r ∈ s, r.length ≤ 1048576) : Ev (fun k => laws_markIntSS.f k s 1) (endR s 1, markedR s 1) := by
  unfold laws_markIntSS.f
  exact mark_rows_l s [] 1 (by decide) h (by simp; omega) hr
end Go.Proofs.Ytgeokcjjkodpeaa.M

/- Rows of rows of whole numbers, held as they were marked. -/
set_option linter.unusedVariables false
set_option linter.unusedSimpArgs false
namespace Go.Proofs.Ytgeokcjjkodpeaa.M
open Go Go.RowKit Go.Proofs.YtgeokcjjkodpeaaW.PrintWords Go.Proofs.Ytgeokcjjkodpeaa.P
theorem held_rows_l : ∀ (s p : List (List Int)) (a : Int), 0 ≤ a → endR s a ≤ 4000000000000000000 → p.length + s.length ≤ 1000000000 → (∀ r ∈ s, r.length ≤ 1048576) → Ev (fun k => laws_heldIntSS.l0 k (p ++ markedR s a) a (p.length : Int)) (endR s a) := by
  intro s
  induction s with
  | nil =>
    intro p a h0 he hl hr
    refine Ev.step (fun k => by rw [laws_heldIntSS.l0]) ?_
    exact ev_neg (by simp [markedR]) (ev_ret rfl)
  | cons r s ih =>
    intro p a h0 he hl hr
    rw [List.length_cons] at hl
    have h1 := hr r (by simp)
    unfold endR at he
    have h2 := endR_le s (a + (r.length : Int))
    have := ih (p ++ [markedI r.length a]) (a + (r.length : Int)) (by omega) he (by simp; omega) fun x hx => hr x (by simp [hx])
    unfold markedR
    refine Ev.step (fun k => by rw [laws_heldIntSS.l0]) ?_
    refine ev_pos (by simp; omega) ?_
    refine ev_pos (by omega) ?_
    rw [rdL, at_midR]
    refine ev_bind (held_int r.length a h1 h0 (by omega)) ?_
    refine ev_neg (by omega) ?_
    rw [w64s (by omega), step_midR, show p.length + 1 = (p ++ [markedI r.length a]).length by simp]
    exact this
theorem held_rows (s : List (List Int)) (h : endR s 1 ≤ 4000000000000000000) (hl : s.length ≤ 1000000000) (hr : ∀ r ∈ s, r.length ≤ 1048576) : Ev (fun k => laws_heldIntSS.f k (markedR s 1) 1) (endR s 1) := by
  unfold laws_heldIntSS.f
  exact held_rows_l s [] 1 (by decide) h (by simp; omega) hr
end Go.Proofs.Ytgeokcjjkodpeaa.M

/- MadeSyndrome of the program and of the reference make the same rows, which are a syndrome that the set fits. -/
import Derived.Test.YtgfchnfceomcbaaMFits
import Derived.Test.YtgfchnfceomcbaaPx7
set_option linter.unusedVariables false
set_option linter.unusedSimpArgs false
namespace Go.Proofs.Ytgfchnfceomcbaa.M
open Go Go.RowKit Go.Proofs.YtgfchnfceomcbaaW.PrintWords Go.Proofs.Ytgfchnfceomcbaa.P

def rowStep (m i : Nat) (st : List Int × Nat) (j : Nat) : List Int × Nat :=
  if j = i then st else if bitN m i = 0 then (st.1.set j (bitN m j : Int), st.2) else (st.1.set j ((st.2 % 2 : Nat) : Int), st.2 / 2)
def rowAll (m n i w : Nat) : List Int × Nat := (List.range' 0 n).foldl (rowStep m i) (List.replicate n 0, w)
def allStep (m n : Nat) (st : List (List Int) × Nat) (i : Nat) : List (List Int) × Nat := (st.1 ++ [(rowAll m n i st.2).1], (rowAll m n i st.2).2)
def made (n m w : Nat) : List (List Int) := ((List.range' 0 n).foldl (allStep m n) ([], w)).1

theorem rowStep_len (m i : Nat) (st : List Int × Nat) (j : Nat) : (rowStep m i st j).1.length = st.1.length := by
  unfold rowStep
  split
  · rfl
  · split <;> simp
theorem rowStep_le (m i : Nat) (st : List Int × Nat) (j : Nat) : (rowStep m i st j).2 ≤ st.2 := by
  unfold rowStep
  split
  · exact Nat.le_refl _
  · split
    · exact Nat.le_refl _
    · exact Nat.div_le_self _ _
theorem rows_len (m i : Nat) (l : List Nat) : ∀ st : List Int × Nat, (l.foldl (rowStep m i) st).1.length = st.1.length ∧ (l.foldl (rowStep m i) st).2 ≤ st.2 := by
  induction l with
  | nil => exact fun st => ⟨rfl, Nat.le_refl _⟩
  | cons j l ih =>
    intro st
    have := ih (rowStep m i st j)
    exact ⟨this.1.trans (rowStep_len m i st j), Nat.le_trans this.2 (rowStep_le m i st j)⟩
theorem rowAll_len (m n i w : Nat) : (rowAll m n i w).1.length = n ∧ (rowAll m n i w).2 ≤ w := by
  have := rows_len m i (List.range' 0 n) (List.replicate n 0, w)
  simpa [rowAll] using this
/-- What entry j of row i says. -/
def Entry (m i j : Nat) (x : Int) : Prop := (j = i → x = 0) ∧ (j ≠ i → bitN m i = 0 → x = (bitN m j : Int)) ∧ (x = 0 ∨ x = 1)
theorem row_entries (m n i : Nat) : ∀ d j (st : List Int × Nat), j + d = n → st.1.length = n → (∀ j', j' < j → Entry m i j' (st.1.getD j' 0)) → (∀ j', j ≤ j' → st.1.getD j' 0 = 0) →
    ∀ j', j' < n → Entry m i j' (((List.range' j d).foldl (rowStep m i) st).1.getD j' 0) := by
  intro d
  induction d with
  | zero =>
    intro j st hj hl h1 h2 j' hj'
    exact h1 j' (by omega)
  | succ d ih =>
    intro j st hj hl h1 h2
    rw [List.range'_succ, List.foldl_cons]
    have hjl : j < st.1.length := by omega
    have keep : ∀ (v : Int) j', j' ≠ j → (st.1.set j v).getD j' 0 = st.1.getD j' 0 := fun v j' hne => by
      simp [List.getD_eq_getElem?_getD, List.getElem?_set_ne (Ne.symm hne)]
    have here : ∀ v : Int, (st.1.set j v).getD j 0 = v := fun v => by
      simp [List.getD_eq_getElem?_getD, List.getElem?_set_self hjl]
    have put : ∀ (v : Int) (w : Nat), Entry m i j v → ∀ j', j' < n → Entry m i j' (((List.range' (j + 1) d).foldl (rowStep m i) (st.1.set j v, w)).1.getD j' 0) := fun v w hv => by
      refine ih (j + 1) _ (by omega) (by simpa using hl) (fun j' hj' => ?_) (fun j' hj' => ?_)
      · by_cases e : j' = j
        · subst e
          show Entry m i j' ((st.1.set j' v).getD j' 0)
          rw [here]
          exact hv
        · show Entry m i j' ((st.1.set j v).getD j' 0)
          rw [keep v j' e]
          exact h1 j' (by omega)
      · show (st.1.set j v).getD j' 0 = 0
        rw [keep v j' (by omega)]
        exact h2 j' (by omega)
    unfold rowStep
    by_cases e : j = i
    · rw [if_pos e]
      refine ih (j + 1) st (by omega) hl (fun j' hj' => ?_) (fun j' hj' => h2 j' (by omega))
      by_cases e' : j' = j
      · rw [e', h2 j (Nat.le_refl _)]
        exact ⟨fun _ => rfl, fun h => absurd e h, .inl rfl⟩
      · exact h1 j' (by omega)
    · rw [if_neg e]
      by_cases z : bitN m i = 0
      · rw [if_pos z]
        exact put _ _ ⟨fun h => absurd h e, fun _ _ => rfl, by have := bitN_01 m j; omega⟩
      · rw [if_neg z]
        exact put _ _ ⟨fun h => absurd h e, fun _ h => absurd h z, by omega⟩
theorem rowAll_entries (m n i w : Nat) : ∀ j, j < n → Entry m i j ((rowAll m n i w).1.getD j 0) :=
  row_entries m n i n 0 _ (by omega) (by simp) (fun j' hj' => by omega) (fun j' _ => by
    by_cases h : j' < n
    · simp [List.getD_eq_getElem?_getD, List.getElem?_replicate, h]
    · simp [List.getD_eq_getElem?_getD, List.getElem?_replicate, h])
/-- A row as it is made. -/
def MadeRow (n m i : Nat) (r : List Int) : Prop := r.length = n ∧ ∀ j, j < n → Entry m i j (r.getD j 0)
theorem all_rows (n m : Nat) : ∀ d i (st : List (List Int) × Nat), i + d = n → st.1.length = i → (∀ i', i' < i → MadeRow n m i' (st.1.getD i' [])) →
    ((List.range' i d).foldl (allStep m n) st).1.length = n ∧ ∀ i', i' < n → MadeRow n m i' (((List.range' i d).foldl (allStep m n) st).1.getD i' []) := by
  intro d
  induction d with
  | zero =>
    intro i st hi hl h
    exact ⟨by show st.1.length = n; omega, fun i' hi' => h i' (by omega)⟩
  | succ d ih =>
    intro i st hi hl h
    rw [List.range'_succ, List.foldl_cons]
    refine ih (i + 1) _ (by omega) (by simp [allStep, hl]) (fun i' hi' => ?_)
    show MadeRow n m i' ((st.1 ++ [(rowAll m n i st.2).1]).getD i' [])
    by_cases e : i' = i
    · subst e
      rw [List.getD_eq_getElem?_getD, List.getElem?_append_right (by omega), hl, Nat.sub_self]
      exact ⟨(rowAll_len m n i' st.2).1, rowAll_entries m n i' st.2⟩
    · rw [List.getD_eq_getElem?_getD, List.getElem?_append_left (by omega), ← List.getD_eq_getElem?_getD]
      exact h i' (by omega)
theorem made_rows (n m w : Nat) : (made n m w).length = n ∧ ∀ i, i < n → MadeRow n m i ((made n m w).getD i []) :=
  all_rows n m n 0 ([], w) (by omega) rfl (fun i' h => by omega)
theorem made_syn (n m w : Nat) (h1 : 1 ≤ n) (h5 : n ≤ 5) : Syn (made n m w) := by
  obtain ⟨hl, hr⟩ := made_rows n m w
  refine ⟨⟨by omega, by omega⟩, fun i hi => ?_⟩
  obtain ⟨h, he⟩ := hr i (by omega)
  exact ⟨by omega, (he i (by omega)).1 rfl, fun j hj => (he j (by omega)).2.2⟩
theorem made_fits (n m w : Nat) : Fits (made n m w) m := by
  obtain ⟨hl, hr⟩ := made_rows n m w
  intro i hi z j hj hne
  exact ((hr i (by omega)).2 j (by omega)).2.1 hne z

theorem spec_made_l (n m : Nat) (hn : n ≤ 5) (hm : m < 32) : ∀ d i (w : Nat) (acc : List (List Int)), i + d = n → acc.length = i → w < 9223372036854775807 →
    Ev (fun k => spec_MadeSyndrome.l0 k (n : Int) (m : Int) (w : Int) acc (i : Int)) ((List.range' i d).foldl (allStep m n) (acc, w)).1 := by
  intro d
  induction d with
  | zero =>
    intro i w acc hi ha hw
    refine Ev.step (fun k => by rw [spec_MadeSyndrome.l0]) ?_
    exact ev_neg (by omega) (ev_ret rfl)
  | succ d ih =>
    intro i w acc hi ha hw
    have inner : ∀ e j (row : List Int) (w' : Nat), j + e = n → row.length = n → w' < 9223372036854775807 →
        Ev (fun k => spec_MadeSyndrome.l1 k (n : Int) (m : Int) (w' : Int) acc (i : Int) row (j : Int))
          ((List.range' (i + 1) d).foldl (allStep m n) (acc ++ [((List.range' j e).foldl (rowStep m i) (row, w')).1], ((List.range' j e).foldl (rowStep m i) (row, w')).2)).1 := by
      intro e
      induction e with
      | zero =>
        intro j row w' hj hr hw'
        refine Ev.step (fun k => by rw [spec_MadeSyndrome.l1]) ?_
        refine ev_neg (by omega) (ev_pos (by omega) ?_)
        rw [w64s (by omega)]
        exact ih (i + 1) w' (acc ++ [row]) (by omega) (by simp [ha]) hw'
      | succ e ihe =>
        intro j row w' hj hr hw'
        refine Ev.step (fun k => by rw [spec_MadeSyndrome.l1]) ?_
        rw [shr_tmod2 m i (by omega), shr_tmod2 m j (by omega), w64s (show j < 9223372036854775807 by omega), Int.toNat_natCast, tmod2, tdiv2, w64 (by omega) (by omega)]
        refine ev_pos (by omega) ?_
        rw [List.range'_succ, List.foldl_cons]
        by_cases e1 : j = i
        · refine ev_pos (by omega) ?_
          rw [show rowStep m i (row, w') j = (row, w') by unfold rowStep; rw [if_pos e1]]
          exact ihe (j + 1) row w' (by omega) hr hw'
        · refine ev_neg (by omega) (ev_pos (by omega) ?_)
          by_cases z : bitN m i = 0
          · refine ev_pos (by omega) (ev_pos (by omega) (ev_pos (by omega) ?_))
            rw [show rowStep m i (row, w') j = (row.set j (bitN m j : Int), w') by unfold rowStep; rw [if_neg e1, if_pos z]]
            exact ihe (j + 1) _ w' (by omega) (by simpa using hr) hw'
          · refine ev_neg (by omega) (ev_pos (by omega) (ev_pos (by omega) ?_))
            rw [show rowStep m i (row, w') j = (row.set j ((w' % 2 : Nat) : Int), w' / 2) by unfold rowStep; rw [if_neg e1, if_neg z]]
            exact ihe (j + 1) _ (w' / 2) (by omega) (by simpa using hr) (by omega)
    refine Ev.step (fun k => by rw [spec_MadeSyndrome.l0]) ?_
    rw [Int.toNat_natCast]
    refine ev_pos (by omega) (ev_pos (by omega) (ev_pos (by omega) ?_))
    rw [List.range'_succ, List.foldl_cons]
    exact inner n 0 _ w (by omega) (by simp) hw
def madeF (n m w : Int) : List (List Int) := if 1 ≤ n ∧ n ≤ 5 ∧ 0 ≤ m ∧ m < (pw n.toNat : Int) ∧ 0 ≤ w then made n.toNat m.toNat w.toNat else []
theorem spec_madeE (n m w : Int) (hw : w < 9223372036854775807) : Ev (fun k => spec_MadeSyndrome.f k n m w) (madeF n m w) := by
  unfold spec_MadeSyndrome.f
  refine ev_bindc (a := []) rfl ?_
  refine ev_bindc (l1In _ _ _) ?_
  have no : ¬ (1 ≤ n ∧ n ≤ 5 ∧ 0 ≤ m ∧ m < (pw n.toNat : Int) ∧ 0 ≤ w) → Ev (fun k => spec_MadeSyndrome.j0 k n m w [] true) (madeF n m w) := fun h => by
    refine Ev.step (fun k => by rw [spec_MadeSyndrome.j0]) (ev_pos rfl (ev_ret ?_))
    unfold madeF
    rw [if_neg h]
  by_cases hn : 1 ≤ n ∧ n ≤ 5
  · refine ev_pos (decide_eq_true hn) (ev_pos (by omega) (ev_bindc (l1In _ _ _) ?_))
    obtain ⟨n, rfl⟩ : ∃ n' : Nat, n = (n' : Int) := ⟨n.toNat, by omega⟩
    have hp := pw5 (n := n) (by omega)
    rw [shl_nat n (by omega), w64 (by omega) (by omega)]
    rw [Int.toNat_natCast] at no
    by_cases hm : 0 ≤ m ∧ m ≤ (pw n : Int) - 1
    · refine ev_pos (decide_eq_true hm) ?_
      by_cases h0 : w < 0
      · rw [decide_eq_true h0]
        exact no fun h => by omega
      · rw [decide_eq_false h0]
        refine Ev.step (fun k => by rw [spec_MadeSyndrome.j0]) (ev_neg (by decide) ?_)
        obtain ⟨m, rfl⟩ : ∃ m' : Nat, m = (m' : Int) := ⟨m.toNat, by omega⟩
        obtain ⟨w, rfl⟩ : ∃ w' : Nat, w = (w' : Int) := ⟨w.toNat, by omega⟩
        unfold madeF
        rw [Int.toNat_natCast, Int.toNat_natCast, Int.toNat_natCast, if_pos ⟨by omega, by omega, by omega, by omega, by omega⟩]
        exact spec_made_l n m (by omega) (by omega) n 0 w [] (by omega) rfl (by omega)
    · exact ev_neg (fun h => hm (of_decide_eq_true h)) (no fun h => hm ⟨by omega, by omega⟩)
  · exact ev_neg (fun h => hn (of_decide_eq_true h)) (no fun h => hn ⟨by omega, by omega⟩)
end Go.Proofs.Ytgfchnfceomcbaa.M

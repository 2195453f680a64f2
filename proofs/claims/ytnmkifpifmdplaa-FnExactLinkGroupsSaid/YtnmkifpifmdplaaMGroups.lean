/- Groups of people who are linked, without a program in sight: the row of least ones is one alone; joining groups link by link makes it, and so does lowering both ends of each link as often as there are people. -/
import Derived.Test.YtnmkifpifmdplaaMList
set_option linter.unusedVariables false
set_option linter.unusedSimpArgs false
namespace Go.Proofs.Ytnmkifpifmdplaa.M
open Go Go.RowKit Go.Proofs.YtnmkifpifmdplaaW.PrintWords
abbrev Edges := List (Nat × Nat)
/-- Linked, one after the other, in either direction. -/
def Conn (E : Edges) (i j : Nat) : Prop := ∀ f : Nat → Nat, (∀ e ∈ E, f e.1 = f e.2) → f i = f j
theorem Conn.refl {E : Edges} (i : Nat) : Conn E i i := fun _ _ => rfl
theorem Conn.symm {E : Edges} {i j : Nat} (h : Conn E i j) : Conn E j i := fun f hf => (h f hf).symm
theorem Conn.trans {E : Edges} {i j k : Nat} (h : Conn E i j) (g : Conn E j k) : Conn E i k := fun f hf => (h f hf).trans (g f hf)
theorem Conn.of {E : Edges} {e : Nat × Nat} (h : e ∈ E) : Conn E e.1 e.2 := fun _ hf => hf e h
theorem Conn.mono {E F : Edges} (hs : ∀ e ∈ E, e ∈ F) {i j : Nat} (h : Conn E i j) : Conn F i j := fun f hf => h f fun e he => hf e (hs e he)
/-- Each person's least one. -/
def Weak (n : Nat) (E : Edges) (r : List Nat) : Prop := r.length = n ∧ ∀ j, j < n → r.getD j 0 ≤ j ∧ Conn E j (r.getD j 0)
def IsRow (n : Nat) (E : Edges) (r : List Nat) : Prop := Weak n E r ∧ ∀ e ∈ E, r.getD e.1 0 = r.getD e.2 0
theorem isRow_conn {n : Nat} {E : Edges} {r : List Nat} (h : IsRow n E r) {i j : Nat} (c : Conn E i j) : r.getD i 0 = r.getD j 0 := c (fun k => r.getD k 0) h.2
theorem isRow_idem {n : Nat} {E : Edges} {r : List Nat} (h : IsRow n E r) {j : Nat} (hj : j < n) : r.getD (r.getD j 0) 0 = r.getD j 0 := (isRow_conn h (h.1.2 j hj).2).symm
theorem isRow_iff {n : Nat} {E : Edges} {r : List Nat} (h : IsRow n E r) {i j : Nat} (hi : i < n) (hj : j < n) : Conn E i j ↔ r.getD i 0 = r.getD j 0 :=
  ⟨isRow_conn h, fun e => (h.1.2 i hi).2.trans (e ▸ (h.1.2 j hj).2.symm)⟩
theorem isRow_uniq {n : Nat} {E : Edges} {r s : List Nat} (h : IsRow n E r) (k : IsRow n E s) : r = s := by
  refine ext_getD 0 r s (h.1.1.trans k.1.1.symm) fun j hj => ?_
  rw [k.1.1] at hj
  have half : ∀ {r s : List Nat}, IsRow n E r → IsRow n E s → s.getD j 0 ≤ r.getD j 0 := fun {r s} h k => by
    have hr := h.1.2 j hj
    rw [isRow_conn k hr.2]
    exact (k.1.2 _ (by omega)).1
  have a := half h k
  have b := half k h
  omega
theorem isRow_same {n : Nat} {E F : Edges} {r : List Nat} (hs : ∀ e, e ∈ E ↔ e ∈ F) (h : IsRow n E r) : IsRow n F r :=
  ⟨⟨h.1.1, fun j hj => ⟨(h.1.2 j hj).1, (h.1.2 j hj).2.mono fun e he => (hs e).1 he⟩⟩, fun e he => h.2 e ((hs e).2 he)⟩
theorem range_getD (n j : Nat) (h : j < n) : (List.range n).getD j 0 = j := by
  rw [getD_lt _ _ _ (by simpa using h), List.getElem_range]
theorem weak_start (n : Nat) (E : Edges) : Weak n E (List.range n) :=
  ⟨List.length_range, fun j hj => by rw [range_getD n j hj]; exact ⟨Nat.le_refl _, Conn.refl _⟩⟩
theorem isRow_start (n : Nat) : IsRow n [] (List.range n) := ⟨weak_start n [], fun e he => by cases he⟩

/-! ### joined link by link -/
def joinL (a b : Nat) (r : List Nat) : List Nat := r.map fun x => if x = max a b then min a b else x
theorem joinL_getD (a b : Nat) (r : List Nat) (j : Nat) (h : j < r.length) : (joinL a b r).getD j 0 = if r.getD j 0 = max a b then min a b else r.getD j 0 := by
  unfold joinL
  rw [getD_lt _ _ _ (by simpa using h), getD_lt _ _ _ h, List.getElem_map]
theorem isRow_join {n : Nat} {E : Edges} {r : List Nat} {e : Nat × Nat} (h : IsRow n E r) (he : ∀ x ∈ E, x.1 < n ∧ x.2 < n) (h1 : e.1 < n) (h2 : e.2 < n) : IsRow n (E ++ [e]) (joinL (r.getD e.1 0) (r.getD e.2 0) r) := by
  obtain ⟨⟨hl, hw⟩, hc⟩ := h
  have up : ∀ {i j : Nat}, Conn E i j → Conn (E ++ [e]) i j := fun c => c.mono fun x hx => List.mem_append_left _ hx
  have hab : Conn (E ++ [e]) (r.getD e.1 0) (r.getD e.2 0) := (up (hw _ h1).2).symm.trans ((Conn.of (by simp)).trans (up (hw _ h2).2))
  refine ⟨⟨by simp [joinL, hl], fun j hj => ?_⟩, fun x hx => ?_⟩
  · have hj' := hw j hj
    rw [joinL_getD _ _ _ _ (by omega)]
    by_cases hm : r.getD j 0 = max (r.getD e.1 0) (r.getD e.2 0)
    · rw [if_pos hm]
      refine ⟨by omega, (up hj'.2).trans ?_⟩
      rw [hm]
      rcases Nat.le_total (r.getD e.1 0) (r.getD e.2 0) with hle | hle
      · rw [Nat.max_eq_right hle, Nat.min_eq_left hle]
        exact hab.symm
      · rw [Nat.max_eq_left hle, Nat.min_eq_right hle]
        exact hab
    · rw [if_neg hm]
      exact ⟨hj'.1, up hj'.2⟩
  · rcases List.mem_append.1 hx with hx | hx
    · have := he x hx
      rw [joinL_getD _ _ _ _ (by omega), joinL_getD _ _ _ _ (by omega), hc x hx]
    · obtain rfl : x = e := by simpa using hx
      rw [joinL_getD _ _ _ _ (by omega), joinL_getD _ _ _ _ (by omega)]
      have : ∀ y, y = r.getD x.1 0 ∨ y = r.getD x.2 0 → (if y = max (r.getD x.1 0) (r.getD x.2 0) then min (r.getD x.1 0) (r.getD x.2 0) else y) = min (r.getD x.1 0) (r.getD x.2 0) := fun y hy => by
        split <;> omega
      rw [this _ (.inl rfl), this _ (.inr rfl)]

/-! ### lowered round by round -/
def lowL (r : List Nat) (e : Nat × Nat) : List Nat := (r.set e.1 (min (r.getD e.1 0) (r.getD e.2 0))).set e.2 (min (r.getD e.1 0) (r.getD e.2 0))
theorem lowL_len (r : List Nat) (e : Nat × Nat) : (lowL r e).length = r.length := by simp [lowL]
theorem lowL_getD (r : List Nat) (e : Nat × Nat) (h1 : e.1 < r.length) (h2 : e.2 < r.length) (j : Nat) : (lowL r e).getD j 0 = if j = e.2 ∨ j = e.1 then min (r.getD e.1 0) (r.getD e.2 0) else r.getD j 0 := by
  unfold lowL
  rw [set_getD 0 _ _ _ (by simpa using h2), set_getD 0 _ _ _ h1]
  by_cases a : j = e.2
  · rw [if_pos a, if_pos (.inl a)]
  · rw [if_neg a]
    by_cases b : j = e.1
    · rw [if_pos b, if_pos (.inr b)]
    · rw [if_neg b, if_neg (by omega)]
theorem weak_low {n : Nat} {E : Edges} {r : List Nat} {e : Nat × Nat} (h : Weak n E r) (he : e ∈ E) (h1 : e.1 < n) (h2 : e.2 < n) : Weak n E (lowL r e) := by
  obtain ⟨hl, hw⟩ := h
  refine ⟨by rw [lowL_len, hl], fun j hj => ?_⟩
  rw [lowL_getD _ _ (by omega) (by omega)]
  have c := Conn.of he
  have a := hw _ h1
  have b := hw _ h2
  have g := hw j hj
  have key : Conn E e.1 (min (r.getD e.1 0) (r.getD e.2 0)) := by
    rcases Nat.le_total (r.getD e.1 0) (r.getD e.2 0) with hle | hle
    · rw [Nat.min_eq_left hle]
      exact a.2
    · rw [Nat.min_eq_right hle]
      exact c.trans b.2
  by_cases q : j = e.2 ∨ j = e.1
  · rw [if_pos q]
    rcases q with q | q
    · subst q
      exact ⟨by omega, c.symm.trans key⟩
    · subst q
      exact ⟨by omega, key⟩
  · rw [if_neg q]
    exact g
/-- The least of all who are linked to it. -/
def IsMin (E : Edges) (m : Nat) : Prop := ∀ j, Conn E m j → m ≤ j
theorem has_min (E : Edges) : ∀ k j, j < k → ∃ m, Conn E j m ∧ IsMin E m := by
  intro k
  induction k with
  | zero => exact fun j hj => by omega
  | succ k ih =>
    intro j hj
    by_cases h : ∃ i, i < j ∧ Conn E j i
    · obtain ⟨i, hi, hc⟩ := h
      obtain ⟨m, hm, hmin⟩ := ih i (by omega)
      exact ⟨m, hc.trans hm, hmin⟩
    · exact ⟨j, Conn.refl _, fun i hi => Nat.le_of_not_lt fun h' => h ⟨i, h', hi⟩⟩
theorem keep_low {n : Nat} {E : Edges} {r : List Nat} {e : Nat × Nat} {m j : Nat} (h : Weak n E r) (he : e ∈ E) (h1 : e.1 < n) (h2 : e.2 < n) (hm : IsMin E m) (hj : j < n) (hr : r.getD j 0 = m) : (lowL r e).getD j 0 = m := by
  have hw := (weak_low h he h1 h2).2 j hj
  have a := hm _ ((hr ▸ (h.2 j hj).2).symm.trans hw.2)
  have b : (lowL r e).getD j 0 ≤ r.getD j 0 := by
    rw [lowL_getD _ _ (by have := h.1; omega) (by have := h.1; omega)]
    split
    · rename_i q
      rcases q with rfl | rfl <;> omega
    · exact Nat.le_refl _
  omega
theorem round_low {n : Nat} {E : Edges} (he : ∀ x ∈ E, x.1 < n ∧ x.2 < n) {m : Nat} (hm : IsMin E m) : ∀ (L : Edges) (r : List Nat), (∀ e ∈ L, e ∈ E) → Weak n E r →
    Weak n E (L.foldl lowL r) ∧ (∀ j, j < n → r.getD j 0 = m → (L.foldl lowL r).getD j 0 = m) ∧ ∀ e ∈ L, (r.getD e.1 0 = m → (L.foldl lowL r).getD e.2 0 = m) ∧ (r.getD e.2 0 = m → (L.foldl lowL r).getD e.1 0 = m) := by
  intro L
  induction L with
  | nil => exact fun r _ h => ⟨h, fun _ _ h => h, fun e he => by cases he⟩
  | cons x L ih =>
    intro r hs h
    have hx := hs x (by simp)
    have hx' := he x hx
    obtain ⟨i1, i2, i3⟩ := ih (lowL r x) (fun e he => hs e (by simp [he])) (weak_low h hx hx'.1 hx'.2)
    have kp := fun j (hj : j < n) (hr : r.getD j 0 = m) => keep_low (j := j) h hx hx'.1 hx'.2 hm hj hr
    refine ⟨i1, fun j hj hr => i2 j hj (kp j hj hr), fun e hm' => ?_⟩
    rcases List.mem_cons.1 hm' with rfl | hm'
    · have e12 : (lowL r e).getD e.1 0 = (lowL r e).getD e.2 0 := by
        rw [lowL_getD _ _ (by have := h.1; omega) (by have := h.1; omega), lowL_getD _ _ (by have := h.1; omega) (by have := h.1; omega), if_pos (.inr rfl), if_pos (.inl rfl)]
      exact ⟨fun hr => i2 _ hx'.2 (e12 ▸ kp _ hx'.1 hr), fun hr => i2 _ hx'.1 (e12.symm ▸ kp _ hx'.2 hr)⟩
    · have := he e (hs e (by simp [hm']))
      exact ⟨fun hr => (i3 e hm').1 (kp _ this.1 hr), fun hr => (i3 e hm').2 (kp _ this.2 hr)⟩
def cnt (p : Nat → Bool) : Nat → Nat
  | 0 => 0
  | n + 1 => cnt p n + if p n then 1 else 0
theorem cnt_le_n (p : Nat → Bool) (n : Nat) : cnt p n ≤ n := by
  induction n with
  | zero => exact Nat.le_refl _
  | succ n ih =>
    simp only [cnt]
    split <;> omega
theorem cnt_mono {p q : Nat → Bool} {n : Nat} (h : ∀ j, j < n → p j = true → q j = true) : cnt p n ≤ cnt q n := by
  induction n with
  | zero => exact Nat.le_refl _
  | succ n ih =>
    have := ih fun j hj => h j (by omega)
    simp only [cnt]
    by_cases hp : p n = true
    · rw [if_pos hp, if_pos (h n (by omega) hp)]
      omega
    · rw [if_neg hp]
      omega
theorem cnt_more {p q : Nat → Bool} {n : Nat} (h : ∀ j, j < n → p j = true → q j = true) {i : Nat} (hi : i < n) (h1 : p i = false) (h2 : q i = true) : cnt p n + 1 ≤ cnt q n := by
  induction n with
  | zero => omega
  | succ n ih =>
    simp only [cnt]
    by_cases e : i = n
    · subst e
      have := cnt_mono (n := i) fun j hj => h j (by omega)
      rw [h1, h2]
      simp
      exact this
    · have := ih (fun j hj => h j (by omega)) (by omega)
      by_cases hp : p n = true
      · rw [if_pos hp, if_pos (h n (by omega) hp)]
        omega
      · rw [if_neg hp]
        omega
theorem cnt_one {p : Nat → Bool} {n i : Nat} (hi : i < n) (h : p i = true) : 1 ≤ cnt p n := by
  have := cnt_more (p := fun _ => false) (q := p) (n := n) (fun _ _ h => by cases h) hi rfl h
  omega
/-- So many rounds over all links. -/
def roundsR (E : Edges) (r : List Nat) : Nat → List Nat
  | 0 => r
  | t + 1 => E.foldl lowL (roundsR E r t)
theorem weak_rounds {n : Nat} {E : Edges} (he : ∀ x ∈ E, x.1 < n ∧ x.2 < n) (t : Nat) : Weak n E (roundsR E (List.range n) t) := by
  have fold : ∀ (L : Edges) (r : List Nat), (∀ e ∈ L, e ∈ E) → Weak n E r → Weak n E (L.foldl lowL r) := by
    intro L
    induction L with
    | nil => exact fun r _ h => h
    | cons x L ih => exact fun r hs h => ih _ (fun e he => hs e (by simp [he])) (weak_low h (hs x (by simp)) (he x (hs x (by simp))).1 (he x (hs x (by simp))).2)
  induction t with
  | zero => exact weak_start n E
  | succ t ih => exact fold E _ (fun _ h => h) ih
theorem full_rounds {n : Nat} {E : Edges} (he : ∀ x ∈ E, x.1 < n ∧ x.2 < n) {m : Nat} (hm : IsMin E m) (hmn : m < n) : ∀ t, (∀ j, j < n → Conn E m j → (roundsR E (List.range n) t).getD j 0 = m) ∨ t + 1 ≤ cnt (fun j => (roundsR E (List.range n) t).getD j 0 == m) n := by
  intro t
  induction t with
  | zero => exact .inr (cnt_one hmn (by simp only [roundsR]; rw [range_getD n m hmn]; simp))
  | succ t ih =>
    obtain ⟨a1, a2, a3⟩ := round_low he hm E (roundsR E (List.range n) t) (fun _ h => h) (weak_rounds he t)
    rcases ih with ih | ih
    · exact .inl fun j hj hc => a2 j hj (ih j hj hc)
    · by_cases hf : ∀ j, j < n → Conn E m j → (roundsR E (List.range n) t).getD j 0 = m
      · exact .inl fun j hj hc => a2 j hj (hf j hj hc)
      · refine .inr ?_
        have hbad : ∃ e ∈ E, ¬ ((roundsR E (List.range n) t).getD e.1 0 = m ↔ (roundsR E (List.range n) t).getD e.2 0 = m) := by
          refine Classical.byContradiction fun hno => hf fun j hj hc => ?_
          have := hc (fun i => if (roundsR E (List.range n) t).getD i 0 = m then 1 else 0) fun e hm' => by
            have h' : (roundsR E (List.range n) t).getD e.1 0 = m ↔ (roundsR E (List.range n) t).getD e.2 0 = m := Classical.byContradiction fun h' => hno ⟨e, hm', h'⟩
            by_cases q : (roundsR E (List.range n) t).getD e.1 0 = m
            · simp only [if_pos q, if_pos (h'.1 q)]
            · simp only [if_neg q, if_neg (fun q' => q (h'.2 q'))]
          have hmm : (roundsR E (List.range n) t).getD m 0 = m := by
            have w := (weak_rounds he t).2 m hmn
            have := hm _ w.2
            omega
          simp only [if_pos hmm] at this
          refine Classical.byContradiction fun q => ?_
          rw [if_neg q] at this
          exact absurd this (by decide)
        obtain ⟨e, hE, hne⟩ := hbad
        have hb := he e hE
        have grow : ∀ j, j < n → ((roundsR E (List.range n) t).getD j 0 == m) = true → ((roundsR E (List.range n) (t + 1)).getD j 0 == m) = true := fun j hj h => by
          rw [beq_iff_eq] at h ⊢
          exact a2 j hj h
        by_cases q : (roundsR E (List.range n) t).getD e.1 0 = m
        · have q2 : (roundsR E (List.range n) t).getD e.2 0 ≠ m := fun q' => hne ⟨fun _ => q', fun _ => q⟩
          have := cnt_more grow hb.2 (by simpa using q2) (by rw [beq_iff_eq]; exact (a3 e hE).1 q)
          omega
        · have q2 : (roundsR E (List.range n) t).getD e.2 0 = m := Classical.byContradiction fun q' => hne ⟨fun h => absurd h q, fun h => absurd h q'⟩
          have := cnt_more grow hb.1 (by simpa using q) (by rw [beq_iff_eq]; exact (a3 e hE).2 q2)
          omega
/-- As many rounds as there are people are enough. -/
theorem isRow_rounds {n : Nat} {E : Edges} (he : ∀ x ∈ E, x.1 < n ∧ x.2 < n) : IsRow n E (roundsR E (List.range n) n) := by
  refine ⟨weak_rounds he n, fun e hE => ?_⟩
  have hb := he e hE
  obtain ⟨m, hc, hm⟩ := has_min E (e.1 + 1) e.1 (by omega)
  have hmn : m < n := by
    have := hm e.1 hc.symm
    omega
  rcases full_rounds he hm hmn n with h | h
  · rw [h _ hb.1 hc.symm, h _ hb.2 (hc.symm.trans (Conn.of hE))]
  · have := cnt_le_n (fun j => (roundsR E (List.range n) n).getD j 0 == m) n
    omega
end Go.Proofs.Ytnmkifpifmdplaa.M

/- A term is what a tree writes; both ways of asking whether it holds in a world tell the tree's value. -/
import Derived.Test.YtbhmippoeimliaaMTerm
set_option linter.unusedVariables false
set_option linter.unusedSimpArgs false
namespace Go.Proofs.Ytbhmippoeimliaa.M
open Go Go.RowKit Go.Proofs.YtbhmippoeimliaaW.PrintWords Go.Proofs.Ytbhmippoeimliaa.P

inductive Tm
  | leaf (m : Mk)
  | neg (t : Tm)
  | bin (c : Int) (a b : Tm)
def Tm.enc : Tm → List Mk
  | .leaf m => [m]
  | .neg t => t.enc ++ [⟨2, 0⟩]
  | .bin c a b => a.enc ++ b.enc ++ [⟨c, 0⟩]
def Tm.Ok (n : Int) : Tm → Prop
  | .leaf m => (m.f0 = 0 ∧ 0 ≤ m.f1 ∧ m.f1 < n) ∨ (m.f0 = 1 ∧ 0 ≤ m.f1 ∧ m.f1 ≤ n + 1)
  | .neg t => t.Ok n
  | .bin c a b => (c = 3 ∨ c = 4 ∨ c = 5) ∧ a.Ok n ∧ b.Ok n
def heads (w : Nat) : Nat := bitN w 0 + bitN w 1 + bitN w 2 + bitN w 3
def op2 (c : Int) (a b : Bool) : Bool := if c = 3 then a && b else if c = 4 then a || b else a == b
def Tm.val (w : Nat) : Tm → Bool
  | .leaf m => if m.f0 = 0 then bitN w m.f1.toNat == 1 else decide (m.f1 ≤ (heads w : Int))
  | .neg t => !t.val w
  | .bin c a b => op2 c (a.val w) (b.val w)
theorem Tm.enc_pos (t : Tm) : 0 < t.enc.length := by
  cases t <;> simp [Tm.enc] <;> try omega
/-- The parts, the last one first. -/
def flat : List Tm → List Mk
  | [] => []
  | t :: r => flat r ++ t.enc
theorem parse (n : Int) : ∀ (l : List Mk) (r : List Tm) (q : Nat), (∀ t ∈ r, t.Ok n) → foldP n r.length l = some q →
    ∃ r' : List Tm, r'.length = q ∧ (∀ t ∈ r', t.Ok n) ∧ flat r ++ l = flat r' := by
  intro l
  induction l with
  | nil =>
    intro r q hr h
    refine ⟨r, by simpa [foldP] using h, hr, by simp⟩
  | cons m l ih =>
    intro r q hr h
    simp only [foldP] at h
    obtain ⟨p, hp, h⟩ := Option.bind_eq_some_iff.1 h
    unfold stepP at hp
    have leaf : Tm.Ok n (.leaf m) → p = r.length + 1 → ∃ r' : List Tm, r'.length = q ∧ (∀ t ∈ r', t.Ok n) ∧ flat r ++ m :: l = flat r' := fun hk e => by
      subst e
      obtain ⟨r', h1, h2, h3⟩ := ih (.leaf m :: r) q (by
        intro t ht
        rcases List.mem_cons.1 ht with rfl | ht
        · exact hk
        · exact hr t ht) h
      refine ⟨r', h1, h2, ?_⟩
      rw [← h3]
      simp [flat, Tm.enc]
    split at hp
    · rename_i h0
      split at hp
      · rename_i h1
        exact leaf (.inl ⟨h0, h1.1, h1.2⟩) (Option.some.inj hp).symm
      · cases hp
    split at hp
    · rename_i h0
      split at hp
      · rename_i h1
        exact leaf (.inr ⟨h0, h1.1, h1.2⟩) (Option.some.inj hp).symm
      · cases hp
    split at hp
    · rename_i h0
      split at hp
      · rename_i h1
        obtain rfl := Option.some.inj hp
        match r, hr, h1.2, h with
        | t :: r, hr, _, h =>
          obtain ⟨r', e1, e2, e3⟩ := ih (.neg t :: r) q (by
            intro x hx
            rcases List.mem_cons.1 hx with rfl | hx
            · exact hr t (by simp)
            · exact hr x (by simp [hx])) h
          refine ⟨r', e1, e2, ?_⟩
          rw [← e3]
          obtain ⟨m0, m1⟩ := m
          obtain rfl : m0 = 2 := h0
          obtain rfl : m1 = 0 := h1.1
          simp [flat, Tm.enc]
      · cases hp
    split at hp
    · rename_i h0
      split at hp
      · rename_i h1
        obtain rfl := Option.some.inj hp
        match r, hr, h1.2, h with
        | b :: a :: r, hr, _, h =>
          obtain ⟨r', e1, e2, e3⟩ := ih (.bin m.f0 a b :: r) q (by
            intro x hx
            rcases List.mem_cons.1 hx with rfl | hx
            · exact ⟨by omega, hr a (by simp), hr b (by simp)⟩
            · exact hr x (by simp [hx])) h
          refine ⟨r', e1, e2, ?_⟩
          rw [← e3]
          obtain ⟨m0, m1⟩ := m
          obtain rfl : m1 = 0 := h1.1
          simp [flat, Tm.enc]
      · cases hp
    · cases hp
/-- A term is what a tree writes. -/
theorem TermP.tree {n : Int} {l : List Mk} (h : TermP n l) : ∃ t : Tm, t.Ok n ∧ l = t.enc := by
  obtain ⟨r, h1, h2, h3⟩ := parse n l [] 1 (by simp) h.2.2
  match r, h1, h2, h3 with
  | [t], _, h2, h3 => exact ⟨t, h2 t (by simp), by simpa [flat] using h3⟩
/-- What a tree writes adds one part. -/
theorem fold_enc (n : Int) (t : Tm) : ∀ (p : Nat) (l : List Mk), t.Ok n → foldP n p (t.enc ++ l) = foldP n (p + 1) l := by
  induction t with
  | leaf m =>
    intro p l h
    simp only [Tm.enc, List.singleton_append, foldP]
    rcases h with ⟨h0, h1⟩ | ⟨h0, h1⟩
    · unfold stepP
      rw [if_pos h0, if_pos h1]
      rfl
    · unfold stepP
      rw [if_neg (by omega), if_pos h0, if_pos h1]
      rfl
  | neg t ih =>
    intro p l h
    simp only [Tm.enc, List.append_assoc, List.singleton_append]
    rw [ih p _ h]
    simp [foldP, stepP]
  | bin c a b iha ihb =>
    intro p l h
    obtain ⟨hc, ha, hb⟩ := h
    simp only [Tm.enc, List.append_assoc, List.singleton_append]
    rw [iha p _ ha, ihb _ _ hb]
    simp only [foldP, stepP]
    rw [if_neg (by omega), if_neg (by omega), if_neg (by omega), if_pos (by omega), if_pos ⟨trivial, by omega⟩]
    rfl
theorem termP_enc (n : Int) (t : Tm) (hn : 1 ≤ n ∧ n ≤ 4) (ht : t.Ok n) (hl : t.enc.length ≤ 15) : TermP n t.enc := by
  refine ⟨hn, hl, ?_⟩
  have := fold_enc n t 0 [] ht
  rw [List.append_nil] at this
  rw [this]
  rfl

/-! ### how many tell the truth in a world -/
theorem ones_heads (w : Nat) (hw : w < 16) : bits_OnesCount.f (IntKind.u64.wrap (w : Int)) = some ((heads w : Nat) : Int) := by
  have h : ∀ w : Fin 16, bits_OnesCount.f (IntKind.u64.wrap (w.val : Int)) = some ((heads w.val : Nat) : Int) := by decide +kernel
  exact h ⟨w, hw⟩

/-! ### the program's way: a stack -/
theorem rdB (s : List Bool) (i : Nat) : rdOf false s (i : Int) = s.getD i false := by simp [rdOf]
theorem getD_at {α : Type} (d : α) (pre : List α) (x : α) (post : List α) : (pre ++ x :: post).getD pre.length d = x := by
  rw [getD_lt _ _ _ (by simp)]
  simp
theorem getD_last {α : Type} (d : α) (pre : List α) (x : α) : (pre ++ [x]).getD pre.length d = x := getD_at d pre x []
theorem beq_one (a : Nat) : ((a : Int) == (1 : Int)) = (a == 1) := by
  rw [Bool.eq_iff_iff, beq_iff_eq, beq_iff_eq]
  omega
theorem impl_push (n : Int) (hn : n ≤ 4) (w : Nat) (hw : w < 16) (L : List Mk) (hL : L.length < 4611686018427387904) (r : Bool) (t : Tm) : ∀ (pre post : List Mk) (st : List Bool), t.Ok n → L = pre ++ t.enc ++ post → st.length ≤ pre.length → L.length ≤ 1000 →
    Ev (fun k => impl_holds.l0 k (w : Int) (st ++ [t.val w]) L (L.length : Int) ((pre.length + t.enc.length : Nat) : Int)) r → Ev (fun k => impl_holds.l0 k (w : Int) st L (L.length : Int) (pre.length : Int)) r := by
  induction t with
  | leaf m =>
    intro pre post st ht hl hs h1000 h
    refine Ev.step (fun k => by rw [impl_holds.l0]) ?_
    have hlen : L.length = pre.length + 1 + post.length := by rw [hl]; simp [Tm.enc]; omega
    have hget : L.getD pre.length zM = m := by
      rw [hl]
      simp only [Tm.enc, List.append_assoc, List.singleton_append]
      exact getD_at zM pre m post
    rw [rdM, hget, w64s (i := pre.length) (by omega)]
    refine ev_pos (by omega) ?_
    refine ev_pos (by omega) ?_
    refine ev_pos (by omega) ?_
    simp only [Tm.enc, List.length_singleton, Tm.val] at h
    rcases ht with ⟨h0, h1, h2⟩ | ⟨h0, h1, h2⟩
    · refine ev_pos h0 ?_
      refine ev_pos h1 ?_
      refine ev_pos (by omega) ?_
      rw [if_pos h0] at h
      rw [show m.f1 = ((m.f1.toNat : Nat) : Int) by omega, shr_and1 w m.f1.toNat (by omega) (by omega), beq_one]
      exact h
    · refine ev_neg (by omega) ?_
      refine ev_pos h0 ?_
      refine ev_bindc (ones_heads w hw) ?_
      refine ev_pos (by omega) ?_
      rw [if_neg (by omega)] at h
      exact h
  | neg t ih =>
    intro pre post st ht hl hs h1000 h
    refine ih pre (⟨2, 0⟩ :: post) st ht (by rw [hl]; simp [Tm.enc]) hs h1000 ?_
    refine Ev.step (fun k => by rw [impl_holds.l0]) ?_
    have hlen : L.length = pre.length + t.enc.length + 1 + post.length := by rw [hl]; simp [Tm.enc]; omega
    have hget : L.getD (pre.length + t.enc.length) zM = ⟨2, 0⟩ := by
      rw [hl]
      simp only [Tm.enc, List.append_assoc, List.singleton_append]
      rw [← List.append_assoc]
      have := getD_at zM (pre ++ t.enc) ⟨2, 0⟩ post
      rwa [List.length_append] at this
    have hstl : (st ++ [t.val w]).length = st.length + 1 := by simp
    rw [rdM, hget, w64s (i := pre.length + t.enc.length) (by omega), hstl, w64 (x := ((st.length + 1 : Nat) : Int) - 1) (by omega) (by omega), show ((st.length + 1 : Nat) : Int) - 1 = (st.length : Int) by omega, Int.toNat_natCast, rdB, getD_last]
    refine ev_pos (by omega) ?_
    refine ev_pos (by omega) ?_
    refine ev_pos (by omega) ?_
    refine ev_neg (by decide) ?_
    refine ev_neg (by decide) ?_
    refine ev_pos rfl ?_
    refine ev_pos (by omega) ?_
    refine ev_pos (by omega) ?_
    rw [show (st ++ [t.val w]).set st.length (!t.val w) = st ++ [!t.val w] by simp]
    simpa [Tm.enc, Tm.val, Nat.add_assoc] using h
  | bin c a b iha ihb =>
    intro pre post st ht hl hs h1000 h
    obtain ⟨hc, ha, hb⟩ := ht
    have hla := a.enc_pos
    refine iha pre (b.enc ++ ⟨c, 0⟩ :: post) st ha (by rw [hl]; simp [Tm.enc]) hs h1000 ?_
    rw [← List.length_append]
    refine ihb (pre ++ a.enc) (⟨c, 0⟩ :: post) (st ++ [a.val w]) hb (by rw [hl]; simp [Tm.enc]) (by simp; omega) h1000 ?_
    refine Ev.step (fun k => by rw [impl_holds.l0]) ?_
    have hlen : L.length = pre.length + a.enc.length + b.enc.length + 1 + post.length := by rw [hl]; simp [Tm.enc]; omega
    have hget : L.getD ((pre ++ a.enc).length + b.enc.length) zM = ⟨c, 0⟩ := by
      rw [hl]
      simp only [Tm.enc, List.append_assoc, List.singleton_append]
      rw [← List.append_assoc, ← List.append_assoc]
      have := getD_at zM ((pre ++ a.enc) ++ b.enc) ⟨c, 0⟩ post
      rwa [List.length_append (bs := b.enc)] at this
    have hpl : (pre ++ a.enc).length = pre.length + a.enc.length := by simp
    have hstl : (st ++ [a.val w] ++ [b.val w]).length = st.length + 2 := by simp
    have g1 : (st ++ [a.val w] ++ [b.val w]).getD (st.length + 1) false = b.val w := by
      have := getD_last false (st ++ [a.val w]) (b.val w)
      rwa [List.length_append] at this
    have g0 : (st ++ [a.val w] ++ [b.val w]).getD st.length false = a.val w := by
      rw [List.append_assoc]
      exact getD_at false st (a.val w) [b.val w]
    have ht : (st ++ [a.val w] ++ [b.val w]).take (st.length + 1) = st ++ [a.val w] := by
      rw [show st.length + 1 = (st ++ [a.val w]).length by simp, List.take_left]
    have hset : ∀ v : Bool, (st ++ [a.val w]).set st.length v = st ++ [v] := fun v => by simp
    rw [rdM, hget, w64s (i := (pre ++ a.enc).length + b.enc.length) (by omega), hstl, w64 (x := ((st.length + 2 : Nat) : Int) - 1) (by omega) (by omega), show ((st.length + 2 : Nat) : Int) - 1 = ((st.length + 1 : Nat) : Int) by omega,
      w64 (x := ((st.length + 1 : Nat) : Int) - 1) (by omega) (by omega), show ((st.length + 1 : Nat) : Int) - 1 = (st.length : Int) by omega, Int.toNat_natCast, Int.toNat_natCast, rdB, rdB, g1, g0, ht]
    refine ev_pos (by omega) ?_
    refine ev_pos (by omega) ?_
    refine ev_pos (by omega) ?_
    refine ev_neg (by dsimp only; omega) ?_
    refine ev_neg (by dsimp only; omega) ?_
    refine ev_neg (by dsimp only; omega) ?_
    refine ev_pos (by omega) ?_
    refine ev_pos (by omega) ?_
    refine ev_pos (by omega) ?_
    refine ev_pos (by omega) ?_
    refine ev_pos (by omega) ?_
    refine ev_bindc rfl ?_
    have hyl : (st ++ [a.val w]).length = st.length + 1 := by simp
    rw [hyl, hset, hset, hset, hset]
    have fin : ∀ v : Bool, v = op2 c (a.val w) (b.val w) → Ev (fun k => impl_holds.l0 k (w : Int) (st ++ [v]) L (L.length : Int) (((pre ++ a.enc).length + b.enc.length + 1 : Nat) : Int)) r := fun v e => by
      rw [e]
      have e2 : (pre ++ a.enc).length + b.enc.length + 1 = pre.length + (Tm.bin c a b).enc.length := by simp [Tm.enc]; omega
      rw [e2]
      exact h
    rcases hc with rfl | rfl | rfl
    · refine ev_pos rfl ?_
      by_cases hv : a.val w = true
      · refine ev_pos hv ?_
        refine ev_pos (by omega) ?_
        exact fin _ (by simp [op2, hv])
      · refine ev_neg hv ?_
        refine ev_pos (by omega) ?_
        exact fin _ (by simp [op2, hv])
    · refine ev_neg (by decide) ?_
      refine ev_pos rfl ?_
      by_cases hv : a.val w = true
      · refine ev_pos hv ?_
        refine ev_pos (by omega) ?_
        exact fin _ (by simp [op2, hv])
      · refine ev_neg hv ?_
        refine ev_pos (by omega) ?_
        exact fin _ (by simp [op2, hv])
    · refine ev_neg (by decide) ?_
      refine ev_neg (by decide) ?_
      refine ev_pos (by omega) ?_
      exact fin _ (by simp [op2])
theorem impl_holdsE (n : Int) (hn : n ≤ 4) (w : Nat) (hw : w < 16) (t : Tm) (ht : t.Ok n) (hl : t.enc.length ≤ 1000) : Ev (fun k => impl_holds.f k t.enc (w : Int)) (t.val w) := by
  unfold impl_holds.f
  refine impl_push n hn w hw t.enc (by omega) (t.val w) t [] [] [] ht (by simp) (by simp) hl ?_
  refine Ev.step (fun k => by rw [impl_holds.l0]) ?_
  refine ev_neg (by simp) ?_
  refine ev_pos (by simp) (ev_ret ?_)
  simp [rdOf]

/-! ### the reference's way: from the last mark -/
end Go.Proofs.Ytbhmippoeimliaa.M

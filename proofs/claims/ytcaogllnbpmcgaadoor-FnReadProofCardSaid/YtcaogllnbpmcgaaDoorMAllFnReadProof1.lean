/- What the proof of this law needs besides: texts of ours, one behind the other. -/
import Derived.Test.YtcaogllnbpmcgaaDoorMBase
import Derived.Test.YtcaogllnbpmcgaaDoorPx8
set_option linter.unusedVariables false
set_option linter.unusedSimpArgs false
namespace Go.Proofs.YtcaogllnbpmcgaaDoor.M
open Go Go.RowKit Go.Proofs.YtcaogllnbpmcgaaDoorW.PrintWords
theorem getD_lt {α : Type} (l : List α) (d : α) (j : Nat) (h : j < l.length) : l.getD j d = l[j] := by
 rw [List.getD_eq_getElem?_getD, List.getElem?_eq_getElem h]
 rfl
theorem getD_mem {α : Type} (l : List α) (d : α) (j : Nat) (h : j < l.length) : l.getD j d ∈ l := by
 rw [getD_lt l d j h]
 exact List.getElem_mem h
end Go.Proofs.YtcaogllnbpmcgaaDoor.M
namespace Go.Proofs.YtcaogllnbpmcgaaDoor.M
open Go Go.RowKit Go.Proofs.YtcaogllnbpmcgaaDoorW.PrintWords Go.Proofs.YtcaogllnbpmcgaaDoor.P
abbrev Mk := S82
abbrev zM : Mk := z82
theorem peopleOkT (n : Int) : impl_peopleOk.f n = some (decide (1 ≤ n ∧ n ≤ 4)) := by
 unfold impl_peopleOk.f
 by_cases h : n ≥ 1
 ·rw [if_pos h]
  simp [h]
 ·rw [if_neg h]
  simp
  intro h'
  omega
theorem rdM (s : List Mk) (i : Nat) : rd_T82 s (i : Int) = s.getD i zM := by simp [rd_T82]
theorem pwm4 {n : Nat} (h : n ≤ 4) : pw n ≤ 16 := Nat.pow_le_pow_right (n := 2) (by decide) h
def stepP (n : Int) (p : Nat) (m : Mk) : Option Nat :=
 if m.f0 = 0 then (if 0 ≤ m.f1 ∧ m.f1 < n then some (p + 1) else none)
 else if m.f0 = 1 then (if 0 ≤ m.f1 ∧ m.f1 ≤ n + 1 then some (p + 1) else none)
 else if m.f0 = 2 then (if m.f1 = 0 ∧ 1 ≤ p then some p else none)
 else if 3 ≤ m.f0 ∧ m.f0 ≤ 5 then (if m.f1 = 0 ∧ 2 ≤ p then some (p - 1) else none)
 else none
def foldP (n : Int) : Nat → List Mk → Option Nat
 | p, [] => some p
 | p, m :: l => (stepP n p m).bind fun q => foldP n q l
def TermP (n : Int) (l : List Mk) : Prop := (1 ≤ n ∧ n ≤ 4) ∧ l.length ≤ 15 ∧ foldP n 0 l = some 1
instance (n : Int) (l : List Mk) : Decidable (TermP n l) := by unfold TermP; infer_instance
theorem drop_getD (l : List Mk) (i : Nat) (h : i < l.length) : l.drop i = l.getD i zM :: l.drop (i + 1) := by
 rw [List.drop_eq_getElem_cons h, getD_lt l zM i h]
theorem foldP_drop (n : Int) (p : Nat) (l : List Mk) (i : Nat) (h : i < l.length) : foldP n p (l.drop i) = (stepP n p (l.getD i zM)).bind fun q => foldP n q (l.drop (i + 1)) := by
 rw [drop_getD l i h]
 rfl
theorem impl_termOk_l (n : Int) (s : List Mk) (hn : 1 ≤ n ∧ n ≤ 4) (hs : s.length ≤ 15) : ∀ d i p : Nat, i + d = s.length → p ≤ i →
  Tells (fun k => impl_TermOk.l0 k n (p : Int) s (s.length : Int) (i : Int)) (foldP n p (s.drop i) = some 1) := by
 intro d
 induction d with
 | zero =>
  intro i p hi hp
  refine Tells.step (fun k => by rw [impl_TermOk.l0]) ?_
  refine Tells.neg (by omega) ?_
  rw [List.drop_eq_nil_of_le (by omega)]
  refine Tells.of (Ev.now _) ?_
  rw [beq_iff_eq]
  simp only [foldP, Option.some.injEq]
  omega
 | succ d ih =>
  intro i p hi hp
  refine Tells.step (fun k => by rw [impl_TermOk.l0]) ?_
  rw [foldP_drop n p s i (by omega), rdM, w64s (i := i) (by omega), w64s (i := p) (by omega), w64 (x := n + 1) (by omega) (by omega)]
  refine Tells.pos (by omega) ?_
  refine Tells.pos (by omega) ?_
  refine Tells.pos (by omega) ?_
  generalize s.getD i zM = m
  have go : ∀ q, q ≤ i + 1 → stepP n p m = some q → Tells (fun k => impl_TermOk.l0 k n (q : Int) s (s.length : Int) ((i + 1 : Nat) : Int)) ((stepP n p m).bind (fun q => foldP n q (s.drop (i + 1))) = some 1) := fun q hq e => by
   rw [e]
   exact ih (i + 1) q (by omega) hq
  have no : stepP n p m = none → Tells (fun _ => some false) ((stepP n p m).bind (fun q => foldP n q (s.drop (i + 1))) = some 1) := fun e => by
   rw [e]
   exact Tells.no (by simp)
  have bin : 3 ≤ m.f0 → m.f0 ≤ 5 → Tells (fun k => impl_TermOk.j2 k n (p : Int) s (s.length : Int) (i : Int) true m.f0 m.f1) ((stepP n p m).bind (fun q => foldP n q (s.drop (i + 1))) = some 1) := fun h3 h5 => by
   refine Tells.step (fun k => by rw [impl_TermOk.j2]) ?_
   rw [w64s (by omega)]
   refine Tells.pos rfl ?_
   refine Tells.ite (fun h => ?_) (fun h => no (by unfold stepP; rw [if_neg (by omega), if_neg (by omega), if_neg (by omega), if_pos ⟨h3, h5⟩, if_neg (by omega)]))
   refine Tells.ite (fun h' => no (by unfold stepP; rw [if_neg (by omega), if_neg (by omega), if_neg (by omega), if_pos ⟨h3, h5⟩, if_neg (by omega)])) (fun h' => ?_)
   rw [w64 (x := (p : Int) - 1) (by omega) (by omega), show (p : Int) - 1 = ((p - 1 : Nat) : Int) by omega]
   exact go (p - 1) (by omega) (by unfold stepP; rw [if_neg (by omega), if_neg (by omega), if_neg (by omega), if_pos ⟨h3, h5⟩, if_pos ⟨h, by omega⟩])
  refine Tells.ite (fun h0 => ?_) (fun h0 => ?_)
  ·refine Tells.ite (fun h => no (by unfold stepP; rw [if_pos h0, if_neg (by omega)])) (fun h => ?_)
   refine Tells.ite (fun h' => no (by unfold stepP; rw [if_pos h0, if_neg (by omega)])) (fun h' => ?_)
   exact go (p + 1) (by omega) (by unfold stepP; rw [if_pos h0, if_pos (by omega)])
  refine Tells.ite (fun h1 => ?_) (fun h1 => ?_)
  ·refine Tells.ite (fun h => no (by unfold stepP; rw [if_neg h0, if_pos h1, if_neg (by omega)])) (fun h => ?_)
   refine Tells.ite (fun h' => no (by unfold stepP; rw [if_neg h0, if_pos h1, if_neg (by omega)])) (fun h' => ?_)
   exact go (p + 1) (by omega) (by unfold stepP; rw [if_neg h0, if_pos h1, if_pos (by omega)])
  refine Tells.ite (fun h2 => ?_) (fun h2 => ?_)
  ·refine Tells.ite (fun h => ?_) (fun h => no (by unfold stepP; rw [if_neg h0, if_neg h1, if_pos h2, if_neg (by omega)]))
   refine Tells.ite (fun h' => no (by unfold stepP; rw [if_neg h0, if_neg h1, if_pos h2, if_neg (by omega)])) (fun h' => ?_)
   exact go p (by omega) (by unfold stepP; rw [if_neg h0, if_neg h1, if_pos h2, if_pos (by omega)])
  refine Tells.ite (fun h3 => ?_) (fun h3 => ?_)
  ·rw [show (m.f0 == 3) = true by simp [h3]]
   exact bin (by omega) (by omega)
  refine Tells.ite (fun h4 => ?_) (fun h4 => ?_)
  ·rw [show (m.f0 == 4) = true by simp [h4]]
   exact bin (by omega) (by omega)
  by_cases h5 : m.f0 = 5
  ·rw [show (m.f0 == 5) = true by simp [h5]]
   exact bin (by omega) (by omega)
  ·rw [show (m.f0 == 5) = false by simp [h5]]
   refine Tells.step (fun k => by rw [impl_TermOk.j2]) ?_
   refine Tells.neg (by decide) ?_
   exact no (by unfold stepP; rw [if_neg h0, if_neg h1, if_neg h2, if_neg (by omega)])
theorem impl_termOk (n : Int) (s : List Mk) : Tells (fun k => impl_TermOk.f k n s) (TermP n s) := by
 unfold impl_TermOk.f
 refine Tells.bindc (peopleOkT n) ?_
 have no : ¬ TermP n s → Tells (fun k => impl_TermOk.j0 k n s true) (TermP n s) := fun h => by
  refine Tells.step (fun k => by rw [impl_TermOk.j0]) ?_
  exact Tells.pos rfl (Tells.no h)
 refine Tells.ite (fun h => ?_) (fun h => no fun h' => h (decide_eq_true h'.1))
 have hn := of_decide_eq_true h
 refine Tells.ite (fun h1 => no fun h' => ?_) (fun h1 => ?_)
 ·have : s = [] := List.eq_nil_of_length_eq_zero (by omega)
  subst this
  simp [TermP, foldP] at h'
 by_cases h2 : (s.length : Int) > 15
 ·rw [decide_eq_true h2]
  exact no fun h' => by have := h'.2.1; omega
 ·rw [decide_eq_false h2]
  refine Tells.step (fun k => by rw [impl_TermOk.j0]) ?_
  refine Tells.neg (by decide) ?_
  refine (impl_termOk_l n s hn (by omega) s.length 0 0 (by omega) (by omega)).iff ?_
  rw [List.drop_zero]
  exact ⟨fun h => ⟨hn, by omega, h⟩, fun h => h.2.2⟩
abbrev Cl := S79
abbrev zC : Cl := z79
theorem rdC (s : List Cl) (i : Nat) : rd_T79 s (i : Int) = s.getD i zC := by simp [rd_T79]
def ClaimP (n who : Int) (l : List Mk) : Prop := 0 ≤ who ∧ who < n ∧ TermP n l ∧ l.length ≤ 13
instance (n who : Int) (l : List Mk) : Decidable (ClaimP n who l) := by unfold ClaimP; infer_instance
theorem impl_claimOk (n who : Int) (l : List Mk) : Tells (fun k => impl_ClaimOk.f k n who l) (ClaimP n who l) := by
 unfold impl_ClaimOk.f
 refine Tells.bindc (peopleOkT n) ?_
 refine Tells.ite (fun h => ?_) (fun h => Tells.no fun h' => h (decide_eq_true h'.2.2.1.1))
 refine Tells.ite (fun h0 => ?_) (fun h0 => Tells.no fun h' => h0 h'.1)
 refine Tells.ite (fun h1 => ?_) (fun h1 => Tells.no fun h' => h1 h'.2.1)
 obtain ⟨b, hb, hi⟩ := impl_termOk n l
 refine Tells.bind hb ?_
 refine Tells.ite (fun h2 => Tells.dec ?_) (fun h2 => Tells.no fun h' => h2 (hi.2 h'.2.2.1))
 exact ⟨fun h => ⟨h0, h1, hi.1 h2, by omega⟩, fun h => by have := h.2.2.2; omega⟩
def StoryP (n : Int) (s : List Cl) : Prop := (∀ i, i < s.length → ClaimP n (s.getD i zC).f0 (s.getD i zC).f1) ∧ (1 ≤ n ∧ n ≤ 4) ∧ s.length ≤ 6
inductive Tm
 | leaf (m : Mk)
 | neg (t : Tm)
 | bin (c : Int) (a b : Tm)
def Tm.enc : Tm → List Mk
 | .leaf m => [m]
 | .neg t => t.enc ++ [⟨2, 0⟩]
 | .bin c a b => a.enc ++ b.enc ++ [⟨c, 0⟩]
def Tm.Ok (n : Int) : Tm → Prop
 | .leaf m => (m.f0 = 0 ∧ 0 ≤ m.f1 ∧ m.f1 < n) ∨ (m.f0 = 1 ∧ 0 ≤ m.f1 ∧ m.f1 ≤ n + 1)
 | .neg t => t.Ok n
 | .bin c a b => (c = 3 ∨ c = 4 ∨ c = 5) ∧ a.Ok n ∧ b.Ok n
def heads (w : Nat) : Nat := bitN w 0 + bitN w 1 + bitN w 2 + bitN w 3
def op2 (c : Int) (a b : Bool) : Bool := if c = 3 then a && b else if c = 4 then a || b else a == b
def Tm.val (w : Nat) : Tm → Bool
 | .leaf m => if m.f0 = 0 then bitN w m.f1.toNat == 1 else decide (m.f1 ≤ (heads w : Int))
 | .neg t => !t.val w
 | .bin c a b => op2 c (a.val w) (b.val w)
theorem Tm.enc_pos (t : Tm) : 0 < t.enc.length := by
 cases t <;> simp [Tm.enc] <;> try omega
def flat : List Tm → List Mk
 | [] => []
 | t :: r => flat r ++ t.enc
theorem parse (n : Int) : ∀ (l : List Mk) (r : List Tm) (q : Nat), (∀ t ∈ r, t.Ok n) → foldP n r.length l = some q →
  ∃ r' : List Tm, r'.length = q ∧ (∀ t ∈ r', t.Ok n) ∧ flat r ++ l = flat r' := by
 intro l
 induction l with
 | nil =>
  intro r q hr h
  refine ⟨r, by simpa [foldP] using h, hr, by simp⟩
 | cons m l ih =>
  intro r q hr h
  simp only [foldP] at h
  obtain ⟨p, hp, h⟩ := Option.bind_eq_some_iff.1 h
  unfold stepP at hp
  have leaf : Tm.Ok n (.leaf m) → p = r.length + 1 → ∃ r' : List Tm, r'.length = q ∧ (∀ t ∈ r', t.Ok n) ∧ flat r ++ m :: l = flat r' := fun hk e => by
   subst e
   obtain ⟨r', h1, h2, h3⟩ := ih (.leaf m :: r) q (by
    intro t ht
    rcases List.mem_cons.1 ht with rfl | ht
    ·exact hk
    ·exact hr t ht) h
   refine ⟨r', h1, h2, ?_⟩
   rw [← h3]
   simp [flat, Tm.enc]
  split at hp
  ·rename_i h0
   split at hp
   ·rename_i h1
    exact leaf (.inl ⟨h0, h1.1, h1.2⟩) (Option.some.inj hp).symm
   ·cases hp
  split at hp
  ·rename_i h0
   split at hp
   ·rename_i h1
    exact leaf (.inr ⟨h0, h1.1, h1.2⟩) (Option.some.inj hp).symm
   ·cases hp
  split at hp
  ·rename_i h0
   split at hp
   ·rename_i h1
    obtain rfl := Option.some.inj hp
    match r, hr, h1.2, h with
    | t :: r, hr, _, h =>
     obtain ⟨r', e1, e2, e3⟩ := ih (.neg t :: r) q (by
      intro x hx
      rcases List.mem_cons.1 hx with rfl | hx
      ·exact hr t (by simp)
      ·exact hr x (by simp [hx])) h
     refine ⟨r', e1, e2, ?_⟩
     rw [← e3]
     obtain ⟨m0, m1⟩ := m
     obtain rfl : m0 = 2 := h0
     obtain rfl : m1 = 0 := h1.1
     simp [flat, Tm.enc]
   ·cases hp
  split at hp
  ·rename_i h0
   split at hp
   ·rename_i h1
    obtain rfl := Option.some.inj hp
    match r, hr, h1.2, h with
    | b :: a :: r, hr, _, h =>
     obtain ⟨r', e1, e2, e3⟩ := ih (.bin m.f0 a b :: r) q (by
      intro x hx
      rcases List.mem_cons.1 hx with rfl | hx
      ·exact ⟨by omega, hr a (by simp), hr b (by simp)⟩
      ·exact hr x (by simp [hx])) h
     refine ⟨r', e1, e2, ?_⟩
     rw [← e3]
     obtain ⟨m0, m1⟩ := m
     obtain rfl : m1 = 0 := h1.1
     simp [flat, Tm.enc]
   ·cases hp
  ·cases hp
theorem TermP.tree {n : Int} {l : List Mk} (h : TermP n l) : ∃ t : Tm, t.Ok n ∧ l = t.enc := by
 obtain ⟨r, h1, h2, h3⟩ := parse n l [] 1 (by simp) h.2.2
 match r, h1, h2, h3 with
 | [t], _, h2, h3 => exact ⟨t, h2 t (by simp), by simpa [flat] using h3⟩
theorem ones_heads (w : Nat) (hw : w < 16) : bits_OnesCount.f (IntKind.u64.wrap (w : Int)) = some ((heads w : Nat) : Int) := by
 have h : ∀ w : Fin 16, bits_OnesCount.f (IntKind.u64.wrap (w.val : Int)) = some ((heads w.val : Nat) : Int) := by decide +kernel
 exact h ⟨w, hw⟩
theorem rdB (s : List Bool) (i : Nat) : rdOf false s (i : Int) = s.getD i false := by simp [rdOf]
theorem getD_at {α : Type} (d : α) (pre : List α) (x : α) (post : List α) : (pre ++ x :: post).getD pre.length d = x := by
 rw [getD_lt _ _ _ (by simp)]
 simp
theorem getD_last {α : Type} (d : α) (pre : List α) (x : α) : (pre ++ [x]).getD pre.length d = x := getD_at d pre x []
theorem beq_one (a : Nat) : ((a : Int) == (1 : Int)) = (a == 1) := by
 rw [Bool.eq_iff_iff, beq_iff_eq, beq_iff_eq]
 omega
theorem impl_push (n : Int) (hn : n ≤ 4) (w : Nat) (hw : w < 16) (L : List Mk) (hL : L.length < 4611686018427387904) (r : Bool) (t : Tm) : ∀ (pre post : List Mk) (st : List Bool), t.Ok n → L = pre ++ t.enc ++ post → st.length ≤ pre.length → L.length ≤ 1000 →
  Ev (fun k => impl_holds.l0 k (w : Int) (st ++ [t.val w]) L (L.length : Int) ((pre.length + t.enc.length : Nat) : Int)) r → Ev (fun k => impl_holds.l0 k (w : Int) st L (L.length : Int) (pre.length : Int)) r := by
 induction t with
 | leaf m =>
  intro pre post st ht hl hs h1000 h
  refine Ev.step (fun k => by rw [impl_holds.l0]) ?_
  have hlen : L.length = pre.length + 1 + post.length := by rw [hl]; simp [Tm.enc]; omega
  have hget : L.getD pre.length zM = m := by
   rw [hl]
   simp only [Tm.enc, List.append_assoc, List.singleton_append]
   exact getD_at zM pre m post
  rw [rdM, hget, w64s (i := pre.length) (by omega)]
  refine ev_pos (by omega) ?_
  refine ev_pos (by omega) ?_
  refine ev_pos (by omega) ?_
  simp only [Tm.enc, List.length_singleton, Tm.val] at h
  rcases ht with ⟨h0, h1, h2⟩ | ⟨h0, h1, h2⟩
  ·refine ev_pos h0 ?_
   refine ev_pos h1 ?_
   refine ev_pos (by omega) ?_
   rw [if_pos h0] at h
   rw [show m.f1 = ((m.f1.toNat : Nat) : Int) by omega, shr_and1 w m.f1.toNat (by omega) (by omega), beq_one]
   exact h
  ·refine ev_neg (by omega) ?_
   refine ev_pos h0 ?_
   refine ev_bindc (ones_heads w hw) ?_
   refine ev_pos (by omega) ?_
   rw [if_neg (by omega)] at h
   exact h
 | neg t ih =>
  intro pre post st ht hl hs h1000 h
  refine ih pre (⟨2, 0⟩ :: post) st ht (by rw [hl]; simp [Tm.enc]) hs h1000 ?_
  refine Ev.step (fun k => by rw [impl_holds.l0]) ?_
  have hlen : L.length = pre.length + t.enc.length + 1 + post.length := by rw [hl]; simp [Tm.enc]; omega
  have hget : L.getD (pre.length + t.enc.length) zM = ⟨2, 0⟩ := by
   rw [hl]
   simp only [Tm.enc, List.append_assoc, List.singleton_append]
   rw [← List.append_assoc]
   have := getD_at zM (pre ++ t.enc) ⟨2, 0⟩ post
   rwa [List.length_append] at this
  have hstl : (st ++ [t.val w]).length = st.length + 1 := by simp
  rw [rdM, hget, w64s (i := pre.length + t.enc.length) (by omega), hstl, w64 (x := ((st.length + 1 : Nat) : Int) - 1) (by omega) (by omega), show ((st.length + 1 : Nat) : Int) - 1 = (st.length : Int) by omega, Int.toNat_natCast, rdB, getD_last]
  refine ev_pos (by omega) ?_
  refine ev_pos (by omega) ?_
  refine ev_pos (by omega) ?_
  refine ev_neg (by decide) ?_
  refine ev_neg (by decide) ?_
  refine ev_pos rfl ?_
  refine ev_pos (by omega) ?_
  refine ev_pos (by omega) ?_
  rw [show (st ++ [t.val w]).set st.length (!t.val w) = st ++ [!t.val w] by simp]
  simpa [Tm.enc, Tm.val, Nat.add_assoc] using h
 | bin c a b iha ihb =>
  intro pre post st ht hl hs h1000 h
  obtain ⟨hc, ha, hb⟩ := ht
  have hla := a.enc_pos
  refine iha pre (b.enc ++ ⟨c, 0⟩ :: post) st ha (by rw [hl]; simp [Tm.enc]) hs h1000 ?_
  rw [← List.length_append]
  refine ihb (pre ++ a.enc) (⟨c, 0⟩ :: post) (st ++ [a.val w]) hb (by rw [hl]; simp [Tm.enc]) (by simp; omega) h1000 ?_
  refine Ev.step (fun k => by rw [impl_holds.l0]) ?_
  have hlen : L.length = pre.length + a.enc.length + b.enc.length + 1 + post.length := by rw [hl]; simp [Tm.enc]; omega
  have hget : L.getD ((pre ++ a.enc).length + b.enc.length) zM = ⟨c, 0⟩ := by
   rw [hl]
   simp only [Tm.enc, List.append_assoc, List.singleton_append]
   rw [← List.append_assoc, ← List.append_assoc]
   have := getD_at zM ((pre ++ a.enc) ++ b.enc) ⟨c, 0⟩ post
   rwa [List.length_append (bs := b.enc)] at this
  have hpl : (pre ++ a.enc).length = pre.length + a.enc.length := by simp
  have hstl : (st ++ [a.val w] ++ [b.val w]).length = st.length + 2 := by simp
  have g1 : (st ++ [a.val w] ++ [b.val w]).getD (st.length + 1) false = b.val w := by
   have := getD_last false (st ++ [a.val w]) (b.val w)
   rwa [List.length_append] at this
  have g0 : (st ++ [a.val w] ++ [b.val w]).getD st.length false = a.val w := by
   rw [List.append_assoc]
   exact getD_at false st (a.val w) [b.val w]
  have ht : (st ++ [a.val w] ++ [b.val w]).take (st.length + 1) = st ++ [a.val w] := by
   rw [show st.length + 1 = (st ++ [a.val w]).length by simp, List.take_left]
  have hset : ∀ v : Bool, (st ++ [a.val w]).set st.length v = st ++ [v] := fun v => by simp
  rw [rdM, hget, w64s (i := (pre ++ a.enc).length + b.enc.length) (by omega), hstl, w64 (x := ((st.length + 2 : Nat) : Int) - 1) (by omega) (by omega), show ((st.length + 2 : Nat) : Int) - 1 = ((st.length + 1 : Nat) : Int) by omega,
   w64 (x := ((st.length + 1 : Nat) : Int) - 1) (by omega) (by omega), show ((st.length + 1 : Nat) : Int) - 1 = (st.length : Int) by omega, Int.toNat_natCast, Int.toNat_natCast, rdB, rdB, g1, g0, ht]
  refine ev_pos (by omega) ?_
  refine ev_pos (by omega) ?_
  refine ev_pos (by omega) ?_
  refine ev_neg (by dsimp only; omega) ?_
  refine ev_neg (by dsimp only; omega) ?_
  refine ev_neg (by dsimp only; omega) ?_
  refine ev_pos (by omega) ?_
  refine ev_pos (by omega) ?_
  refine ev_pos (by omega) ?_
  refine ev_pos (by omega) ?_
  refine ev_pos (by omega) ?_
  refine ev_bindc rfl ?_
  have hyl : (st ++ [a.val w]).length = st.length + 1 := by simp
  rw [hyl, hset, hset, hset, hset]
  have fin : ∀ v : Bool, v = op2 c (a.val w) (b.val w) → Ev (fun k => impl_holds.l0 k (w : Int) (st ++ [v]) L (L.length : Int) (((pre ++ a.enc).length + b.enc.length + 1 : Nat) : Int)) r := fun v e => by
   rw [e]
   have e2 : (pre ++ a.enc).length + b.enc.length + 1 = pre.length + (Tm.bin c a b).enc.length := by simp [Tm.enc]; omega
   rw [e2]
   exact h
  rcases hc with rfl | rfl | rfl
  ·refine ev_pos rfl ?_
   by_cases hv : a.val w = true
   ·refine ev_pos hv ?_
    refine ev_pos (by omega) ?_
    exact fin _ (by simp [op2, hv])
   ·refine ev_neg hv ?_
    refine ev_pos (by omega) ?_
    exact fin _ (by simp [op2, hv])
  ·refine ev_neg (by decide) ?_
   refine ev_pos rfl ?_
   by_cases hv : a.val w = true
   ·refine ev_pos hv ?_
    refine ev_pos (by omega) ?_
    exact fin _ (by simp [op2, hv])
   ·refine ev_neg hv ?_
    refine ev_pos (by omega) ?_
    exact fin _ (by simp [op2, hv])
  ·refine ev_neg (by decide) ?_
   refine ev_neg (by decide) ?_
   refine ev_pos (by omega) ?_
   exact fin _ (by simp [op2])
theorem impl_holdsE (n : Int) (hn : n ≤ 4) (w : Nat) (hw : w < 16) (t : Tm) (ht : t.Ok n) (hl : t.enc.length ≤ 1000) : Ev (fun k => impl_holds.f k t.enc (w : Int)) (t.val w) := by
 unfold impl_holds.f
 refine impl_push n hn w hw t.enc (by omega) (t.val w) t [] [] [] ht (by simp) (by simp) hl ?_
 refine Ev.step (fun k => by rw [impl_holds.l0]) ?_
 refine ev_neg (by simp) ?_
 refine ev_pos (by simp) (ev_ret ?_)
 simp [rdOf]
def tabN (p : Nat → Bool) : Nat → Nat
 | 0 => 0
 | n + 1 => tabN p n + if p n then pw n else 0
theorem tabN_lt (p : Nat → Bool) (n : Nat) : tabN p n < pw n := by
 induction n with
 | zero => exact pw_pos 0
 | succ n ih =>
  have : pw (n + 1) = pw n + pw n := by unfold pw; omega
  simp only [tabN]
  split <;> omega
theorem or_pw (p : Nat → Bool) (j : Nat) (hj : j ≤ 16) : Go.bits .or .i64 (tabN p j : Int) (pw j : Int) = ((tabN p j + pw j : Nat) : Int) := by
 have h1 := tabN_lt p j
 have h2 := pw16 hj
 have h := (bits_nat .i64 63 (by decide) wraps_i64 (tabN p j) (pw j) (by omega) (by omega)).2
 rw [h]
 have e := Nat.two_pow_add_eq_or_of_lt (i := j) h1 1
 rw [Nat.mul_one] at e
 rw [Nat.or_comm]
 show ((2 ^ j ||| tabN p j : Nat) : Int) = _
 rw [← e, Nat.add_comm]
 rfl
theorem tab_yes (p : Nat → Bool) (j : Nat) (hj : j ≤ 16) (h : p j = true) : Value.int .i64 (Go.bits .or .i64 (tabN p j : Int) (pw j : Int)) = .int .i64 (tabN p (j + 1) : Nat) := by
 rw [or_pw p j hj]
 simp [tabN, h]
theorem tab_no (p : Nat → Bool) (j : Nat) (h : p j = false) : Value.int .i64 (tabN p j : Nat) = .int .i64 (tabN p (j + 1) : Nat) := by
 simp [tabN, h]
def runL (w : Nat) : List Bool → List Mk → List Bool
 | st, [] => st
 | st, m :: l => runL w (if m.f0 = 0 then (bitN w m.f1.toNat == 1) :: st else if m.f0 = 1 then decide (m.f1 ≤ (heads w : Int)) :: st else if m.f0 = 2 then (!st.headD false) :: st.tail else op2 m.f0 (st.tail.headD false) (st.headD false) :: st.tail.tail) l
theorem runL_enc (n : Int) (w : Nat) (t : Tm) : ∀ (st : List Bool) (l : List Mk), t.Ok n → runL w st (t.enc ++ l) = runL w (t.val w :: st) l := by
 induction t with
 | leaf m =>
  intro st l h
  simp only [Tm.enc, List.singleton_append, runL, Tm.val]
  by_cases h0 : m.f0 = 0
  ·rw [if_pos h0, if_pos h0]
  ·rw [if_neg h0, if_neg h0, if_pos (by rcases h with h | h <;> omega)]
 | neg t ih =>
  intro st l h
  simp only [Tm.enc, List.append_assoc, List.singleton_append]
  rw [ih st _ h]
  simp [runL, Tm.val]
 | bin c a b iha ihb =>
  intro st l h
  obtain ⟨hc, ha, hb⟩ := h
  simp only [Tm.enc, List.append_assoc, List.singleton_append]
  rw [iha st _ ha, ihb _ _ hb]
  simp only [runL, Tm.val]
  rw [if_neg (by omega), if_neg (by omega), if_neg (by omega)]
  rfl
def holdB (l : List Mk) (w : Nat) : Bool := (runL w [] l).headD false
theorem holdB_enc (n : Int) (w : Nat) (t : Tm) (h : t.Ok n) : holdB t.enc w = t.val w := by
 unfold holdB
 have := runL_enc n w t [] [] h
 rw [List.append_nil] at this
 rw [this]
 rfl
theorem impl_holdsT {n : Int} {l : List Mk} (h : TermP n l) (w : Nat) (hw : w < 16) : Ev (fun k => impl_holds.f k l (w : Int)) (holdB l w) := by
 obtain ⟨t, ht, rfl⟩ := h.tree
 rw [holdB_enc n w t ht]
 exact impl_holdsE n h.1.2 w hw t ht (by have := h.2.1; omega)
def mayB (who : Nat) (l : List Mk) (w : Nat) : Bool := (bitN w who == 1) == holdB l w
theorem impl_mayE {n : Int} {l : List Mk} (h : TermP n l) (who : Int) (h0 : 0 ≤ who) (h4 : who < 4) (w : Nat) (hw : w < 16) : Ev (fun k => impl_maySay.f k who l (w : Int)) (mayB who.toNat l w) := by
 unfold impl_maySay.f
 refine ev_bind (impl_holdsT h w hw) ?_
 refine ev_pos h0 (ev_ret ?_)
 rw [show who = ((who.toNat : Nat) : Int) by omega, shr_and1 w who.toNat (by omega) (by omega), beq_one]
 unfold mayB
 rw [Int.toNat_natCast, BEq.comm]
end Go.Proofs.YtcaogllnbpmcgaaDoor.M

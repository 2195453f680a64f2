/- What the proof of this law needs besides: texts of ours, one behind the other. -/
import Derived.Test.YtbhmippoeimliaaWWords
import Derived.Test.YtbhmippoeimliaaWMore
import Derived.Deep.Slices
import Derived.Deep.Strs
import Derived.ChangeSame
import Derived.ProofKit
import Derived.Test.YtbhmippoeimliaaMBase
import Derived.Test.YtbhmippoeimliaaPx5
import Derived.Test.YtbhmippoeimliaaPx4
import Derived.Test.YtbhmippoeimliaaPx6
import Derived.Test.YtbhmippoeimliaaPx3
import Derived.Test.YtbhmippoeimliaaPx2
import Derived.Test.YtbhmippoeimliaaPx8
import Derived.Test.YtbhmippoeimliaaPx7
import Derived.Test.YtbhmippoeimliaaPx9
import Derived.Test.YtbhmippoeimliaaPx10
import Derived.Test.YtbhmippoeimliaaPx11
import Derived.Test.YtbhmippoeimliaaPx12
/- What comes in, opened by its type's shape: a slice of whatever can be opened reads as a list of what its elements read as. -/
set_option linter.unusedVariables false
set_option linter.unusedSimpArgs false
namespace Go.Proofs.Ytbhmippoeimliaa.Open
open Go Go.RowKit Go.Proofs.YtbhmippoeimliaaW.PrintWords Go.Deep Go.ChangeShapes Go.WideShapes

/-- Whatever reads at this type is what the kind tells. -/
def Opens (P : Program) (w : World) (e : TypeId) {α : Type} (d : Kd α) (wf : α → Prop) : Prop :=
  ∀ (H : Type) (enc : TypeId × Value → H) (n : Nat) (cs : List Value) (x : DataW H × List MemPlace), DataW.trod enc P w 0 (fun _ => true) true n e cs = some x → ∃ a, d.K w a cs ∧ wf a
section
variable {P : Program} {w : World} {t e : TypeId}
theorem opens_int {k : IntKind} (ht : P.underlying t = some (.int k)) : Opens P w t (Kd.int k) (fun a => (Lit.int k a).wf = true) := fun H enc n cs x h => by
  obtain ⟨m, rfl, _, hw⟩ := DataW.trod_int ht h
  exact ⟨m, rfl, hw⟩
theorem opens_bool (ht : P.underlying t = some .bool) : Opens P w t Kd.bool (fun _ => True) := fun H enc n cs x h => by
  obtain ⟨m, rfl, _⟩ := DataW.trod_bool ht h
  exact ⟨m, rfl, trivial⟩
theorem list_of {α : Type} (n : Nat) (Q : Nat → α → Prop) (h : ∀ i, i < n → ∃ a, Q i a) : ∃ l : List α, l.length = n ∧ ∀ i a, l[i]? = some a → Q i a := by
  induction n with
  | zero => exact ⟨[], rfl, fun i a h => by simp at h⟩
  | succ n ih =>
    obtain ⟨l, hl, hq⟩ := ih fun i hi => h i (by omega)
    obtain ⟨a, ha⟩ := h n (by omega)
    refine ⟨l ++ [a], by simp [hl], fun i b hb => ?_⟩
    by_cases hi : i < n
    · rw [List.getElem?_append_left (by omega)] at hb
      exact hq i b hb
    · by_cases he : i = n
      · subst he
        rw [List.getElem?_append_right (by omega), hl, Nat.sub_self] at hb
        simp at hb
        exact hb ▸ ha
      · rw [List.getElem?_eq_none (by simp; omega)] at hb
        cases hb
theorem opens_slice {α : Type} {d : Kd α} {wf : α → Prop} (ht : P.underlying t = some (.slice e)) (hc : P.cellsOf e = d.sz) (he : Opens P w e d wf) :
    Opens P w t (Kd.slice e d) (fun l => l.length ≤ maxLen ∧ ∀ x ∈ l, wf x) := fun H enc n cs x h => by
  rcases open_slice ht h with ⟨rfl, _⟩ | ⟨a, len, cap, m, n', D, Pl, rfl, _, hl, hm, hmm, _, hx⟩
  · exact ⟨[], ⟨none, 0, rfl, Nat.le_refl _, rfl, Nat.zero_le _, fun h => absurd h (Nat.lt_irrefl _)⟩, Nat.zero_le _, fun x hx => by cases hx⟩
  · obtain ⟨l, hll, hq⟩ := list_of len (fun i p => (∃ c, c.length = d.sz ∧ d.K w p c ∧ ∀ j u, c[j]? = some u → w.cell? (a.add (i * d.sz + j)) = some u) ∧ wf p) fun i hi => by
      obtain ⟨cs', hcs, htr⟩ := hx i (by rw [hmm]; simp; omega)
      obtain ⟨p, hK, hw⟩ := he H enc n' cs' _ htr
      obtain ⟨_, hlen, hcell⟩ := World.cells?_some hcs
      refine ⟨p, ⟨cs', by omega, hK, fun j u hu => ?_⟩, hw⟩
      have hj : j < cs'.length := (List.getElem?_eq_some_iff.1 hu).1
      have := hcell j (by omega)
      rw [Go.Deep.add_add, hc] at this
      exact this.trans hu
    subst hll
    refine ⟨l, ⟨some a, cap, rfl, hl, rfl, by unfold maxLen at hm; omega, fun _ => ⟨a, rfl, fun j p hp => (hq j p hp).1⟩⟩, by omega, fun x hx => ?_⟩
    obtain ⟨j, hj, e⟩ := List.getElem_of_mem hx
    exact (hq j x (by rw [List.getElem?_eq_getElem hj, e])).2
/-- A slice that is a parameter. -/
theorem top_slice {α : Type} {d : Kd α} {wf : List α → Prop} {H : Type} {enc : TypeId × Value → H} {a : Option Addr} {len cap : Nat} {dd : DataW H} {pp : List MemPlace} (ho : Opens P w t (Kd.slice e d) wf)
    (h : DataW.Trod enc P w 0 (fun _ => true) true t (.slice a len cap) dd pp) : ∃ l : List α, len = l.length ∧ l.length ≤ cap ∧ d.C w a l.length l ∧ wf l := by
  obtain ⟨fuel, hf⟩ := h
  obtain ⟨l, ⟨A, c, hcs, hl, hC⟩, hw⟩ := ho H enc fuel _ _ hf
  have : Value.slice a len cap = Value.slice A l.length c := by simpa [Value.cells] using hcs
  injection this with h1 h2 h3
  subst h1
  subst h3
  exact ⟨l, h2, hl, hC, hw⟩
theorem opens_two {α β γ : Type} {d0 : Kd α} {d1 : Kd β} {d : Kd γ} {wf0 : α → Prop} {wf1 : β → Prop} {wf : γ → Prop} {f0 f1 : Field} (pair : α → β → γ) (ht : P.underlying t = some (.struct #[f0, f1])) (hc : P.cellsOf t = 2)
    (o0 : f0.offset = 0) (o1 : f1.offset = 1) (c0 : P.cellsOf f0.type = 1) (c1 : P.cellsOf f1.type = 1) (h0 : Opens P w f0.type d0 wf0) (h1 : Opens P w f1.type d1 wf1)
    (mk : ∀ a b x y, d0.K w a [x] → d1.K w b [y] → d.K w (pair a b) [x, y]) (hwf : ∀ a b, wf0 a → wf1 b → wf (pair a b)) : Opens P w t d wf := fun H enc n cs x h => by
  obtain ⟨y0, y1, m, _, hl, t0, t1⟩ := trod_struct2 ht h
  rw [o0, c0] at t0
  rw [o1, c1] at t1
  rw [hc] at hl
  match cs, hl with
  | [u, v], _ =>
    obtain ⟨a, ha, wa⟩ := h0 H enc m _ _ t0
    obtain ⟨b, hb, wb⟩ := h1 H enc m _ _ t1
    exact ⟨pair a b, mk a b u v ha hb, hwf a b wa wb⟩
theorem opens_three {α β γ δ : Type} {d0 : Kd α} {d1 : Kd β} {d2 : Kd γ} {d : Kd δ} {wf0 : α → Prop} {wf1 : β → Prop} {wf2 : γ → Prop} {wf : δ → Prop} {f0 f1 f2 : Field} (pair : α → β → γ → δ) (ht : P.underlying t = some (.struct #[f0, f1, f2])) (hc : P.cellsOf t = 3)
    (o0 : f0.offset = 0) (o1 : f1.offset = 1) (o2 : f2.offset = 2) (c0 : P.cellsOf f0.type = 1) (c1 : P.cellsOf f1.type = 1) (c2 : P.cellsOf f2.type = 1) (h0 : Opens P w f0.type d0 wf0) (h1 : Opens P w f1.type d1 wf1) (h2 : Opens P w f2.type d2 wf2)
    (mk : ∀ a b c x y z, d0.K w a [x] → d1.K w b [y] → d2.K w c [z] → d.K w (pair a b c) [x, y, z]) (hwf : ∀ a b c, wf0 a → wf1 b → wf2 c → wf (pair a b c)) : Opens P w t d wf := fun H enc n cs x h => by
  obtain ⟨y0, y1, y2, m, _, hl, t0, t1, t2⟩ := trod_struct3 ht h
  rw [o0, c0] at t0
  rw [o1, c1] at t1
  rw [o2, c2] at t2
  rw [hc] at hl
  match cs, hl with
  | [u, v, z], _ =>
    obtain ⟨a, ha, wa⟩ := h0 H enc m _ _ t0
    obtain ⟨b, hb, wb⟩ := h1 H enc m _ _ t1
    obtain ⟨c, hc, wc⟩ := h2 H enc m _ _ t2
    exact ⟨pair a b c, mk a b c u v z ha hb hc, hwf a b c wa wb wc⟩
end
end Go.Proofs.Ytbhmippoeimliaa.Open

/- Lists by their entries. -/
set_option linter.unusedVariables false
set_option linter.unusedSimpArgs false
namespace Go.Proofs.Ytbhmippoeimliaa.M
open Go Go.RowKit Go.Proofs.YtbhmippoeimliaaW.PrintWords
theorem getD_lt {α : Type} (l : List α) (d : α) (j : Nat) (h : j < l.length) : l.getD j d = l[j] := by
  rw [List.getD_eq_getElem?_getD, List.getElem?_eq_getElem h]
  rfl
theorem ext_getD {α : Type} (d : α) (x l : List α) (hl : x.length = l.length) (h : ∀ j, j < l.length → x.getD j d = l.getD j d) : x = l := by
  refine List.ext_getElem hl fun j h1 h2 => ?_
  have := h j h2
  rwa [getD_lt _ _ _ h1, getD_lt _ _ _ h2] at this
theorem set_getD {α : Type} (d : α) (x : List α) (i : Nat) (v : α) (hi : i < x.length) (j : Nat) : (x.set i v).getD j d = if j = i then v else x.getD j d := by
  by_cases e : j = i
  · subst e
    rw [if_pos rfl, List.getD_eq_getElem?_getD, List.getElem?_set_self hi]
    rfl
  · rw [if_neg e, List.getD_eq_getElem?_getD, List.getElem?_set_ne (Ne.symm e), ← List.getD_eq_getElem?_getD]
theorem getD_mem {α : Type} (l : List α) (d : α) (j : Nat) (h : j < l.length) : l.getD j d ∈ l := by
  rw [getD_lt l d j h]
  exact List.getElem_mem h
theorem getD_all {α : Type} (l : List α) (d : α) (P : α → Prop) (hd : P d) (h : ∀ x ∈ l, P x) (j : Nat) : P (l.getD j d) := by
  by_cases hj : j < l.length
  · exact h _ (getD_mem l d j hj)
  · rw [List.getD_eq_getElem?_getD, List.getElem?_eq_none (by omega)]
    exact hd
def castL (l : List Nat) : List Int := l.map fun w : Nat => (w : Int)
theorem castL_len (l : List Nat) : (castL l).length = l.length := by simp [castL]
theorem castL_getD (l : List Nat) (i : Nat) : (castL l).getD i 0 = ((l.getD i 0 : Nat) : Int) := by
  unfold castL
  by_cases h : i < l.length
  · rw [getD_lt _ _ _ (by simpa using h), getD_lt _ _ _ h, List.getElem_map]
  · rw [List.getD_eq_getElem?_getD, List.getElem?_eq_none (by simpa using h), List.getD_eq_getElem?_getD, List.getElem?_eq_none (by omega)]
    rfl
end Go.Proofs.Ytbhmippoeimliaa.M

/- Terms: a row of marks is a term just if it is what a tree writes; both TermOk tell so, and both ways of asking whether a term holds tell the tree's value. -/
set_option linter.unusedVariables false
set_option linter.unusedSimpArgs false
namespace Go.Proofs.Ytbhmippoeimliaa.M
open Go Go.RowKit Go.Proofs.YtbhmippoeimliaaW.PrintWords Go.Proofs.Ytbhmippoeimliaa.P
abbrev Mk := S81
abbrev zM : Mk := z81
theorem peopleOkT (n : Int) : impl_peopleOk.f n = some (decide (1 ≤ n ∧ n ≤ 4)) := by
  unfold impl_peopleOk.f
  by_cases h : n ≥ 1
  · rw [if_pos h]
    simp [h]
  · rw [if_neg h]
    simp
    intro h'
    omega
theorem rdM (s : List Mk) (i : Nat) : rd_T81 s (i : Int) = s.getD i zM := by simp [rd_T81]
theorem pwm4 {n : Nat} (h : n ≤ 4) : pw n ≤ 16 := Nat.pow_le_pow_right (n := 2) (by decide) h

/-! ### which rows are terms -/
/-- How many parts there are behind a mark. -/
def stepP (n : Int) (p : Nat) (m : Mk) : Option Nat :=
  if m.f0 = 0 then (if 0 ≤ m.f1 ∧ m.f1 < n then some (p + 1) else none)
  else if m.f0 = 1 then (if 0 ≤ m.f1 ∧ m.f1 ≤ n + 1 then some (p + 1) else none)
  else if m.f0 = 2 then (if m.f1 = 0 ∧ 1 ≤ p then some p else none)
  else if 3 ≤ m.f0 ∧ m.f0 ≤ 5 then (if m.f1 = 0 ∧ 2 ≤ p then some (p - 1) else none)
  else none
def foldP (n : Int) : Nat → List Mk → Option Nat
  | p, [] => some p
  | p, m :: l => (stepP n p m).bind fun q => foldP n q l
/-- A term for so many people. -/
def TermP (n : Int) (l : List Mk) : Prop := (1 ≤ n ∧ n ≤ 4) ∧ l.length ≤ 15 ∧ foldP n 0 l = some 1
instance (n : Int) (l : List Mk) : Decidable (TermP n l) := by unfold TermP; infer_instance
theorem stepP_le {n : Int} {p q : Nat} {m : Mk} (h : stepP n p m = some q) : q ≤ p + 1 := by
  unfold stepP at h
  repeat' split at h
  all_goals first | (cases h; omega) | cases h
theorem drop_getD (l : List Mk) (i : Nat) (h : i < l.length) : l.drop i = l.getD i zM :: l.drop (i + 1) := by
  rw [List.drop_eq_getElem_cons h, getD_lt l zM i h]
theorem foldP_drop (n : Int) (p : Nat) (l : List Mk) (i : Nat) (h : i < l.length) : foldP n p (l.drop i) = (stepP n p (l.getD i zM)).bind fun q => foldP n q (l.drop (i + 1)) := by
  rw [drop_getD l i h]
  rfl
theorem impl_termOk_l (n : Int) (s : List Mk) (hn : 1 ≤ n ∧ n ≤ 4) (hs : s.length ≤ 15) : ∀ d i p : Nat, i + d = s.length → p ≤ i →
    Tells (fun k => impl_TermOk.l0 k n (p : Int) s (s.length : Int) (i : Int)) (foldP n p (s.drop i) = some 1) := by
  intro d
  induction d with
  | zero =>
    intro i p hi hp
    refine Tells.step (fun k => by rw [impl_TermOk.l0]) ?_
    refine Tells.neg (by omega) ?_
    rw [List.drop_eq_nil_of_le (by omega)]
    refine Tells.of (Ev.now _) ?_
    rw [beq_iff_eq]
    simp only [foldP, Option.some.injEq]
    omega
  | succ d ih =>
    intro i p hi hp
    refine Tells.step (fun k => by rw [impl_TermOk.l0]) ?_
    rw [foldP_drop n p s i (by omega), rdM, w64s (i := i) (by omega), w64s (i := p) (by omega), w64 (x := n + 1) (by omega) (by omega)]
    refine Tells.pos (by omega) ?_
    refine Tells.pos (by omega) ?_
    refine Tells.pos (by omega) ?_
    generalize s.getD i zM = m
    have go : ∀ q, q ≤ i + 1 → stepP n p m = some q → Tells (fun k => impl_TermOk.l0 k n (q : Int) s (s.length : Int) ((i + 1 : Nat) : Int)) ((stepP n p m).bind (fun q => foldP n q (s.drop (i + 1))) = some 1) := fun q hq e => by
      rw [e]
      exact ih (i + 1) q (by omega) hq
    have no : stepP n p m = none → Tells (fun _ => some false) ((stepP n p m).bind (fun q => foldP n q (s.drop (i + 1))) = some 1) := fun e => by
      rw [e]
      exact Tells.no (by simp)
    have bin : 3 ≤ m.f0 → m.f0 ≤ 5 → Tells (fun k => impl_TermOk.j2 k n (p : Int) s (s.length : Int) (i : Int) true m.f0 m.f1) ((stepP n p m).bind (fun q => foldP n q (s.drop (i + 1))) = some 1) := fun h3 h5 => by
      refine Tells.step (fun k => by rw [impl_TermOk.j2]) ?_
      rw [w64s (by omega)]
      refine Tells.pos rfl ?_
      refine Tells.ite (fun h => ?_) (fun h => no (by unfold stepP; rw [if_neg (by omega), if_neg (by omega), if_neg (by omega), if_pos ⟨h3, h5⟩, if_neg (by omega)]))
      refine Tells.ite (fun h' => no (by unfold stepP; rw [if_neg (by omega), if_neg (by omega), if_neg (by omega), if_pos ⟨h3, h5⟩, if_neg (by omega)])) (fun h' => ?_)
      rw [w64 (x := (p : Int) - 1) (by omega) (by omega), show (p : Int) - 1 = ((p - 1 : Nat) : Int) by omega]
      exact go (p - 1) (by omega) (by unfold stepP; rw [if_neg (by omega), if_neg (by omega), if_neg (by omega), if_pos ⟨h3, h5⟩, if_pos ⟨h, by omega⟩])
    refine Tells.ite (fun h0 => ?_) (fun h0 => ?_)
    · refine Tells.ite (fun h => no (by unfold stepP; rw [if_pos h0, if_neg (by omega)])) (fun h => ?_)
      refine Tells.ite (fun h' => no (by unfold stepP; rw [if_pos h0, if_neg (by omega)])) (fun h' => ?_)
      exact go (p + 1) (by omega) (by unfold stepP; rw [if_pos h0, if_pos (by omega)])
    refine Tells.ite (fun h1 => ?_) (fun h1 => ?_)
    · refine Tells.ite (fun h => no (by unfold stepP; rw [if_neg h0, if_pos h1, if_neg (by omega)])) (fun h => ?_)
      refine Tells.ite (fun h' => no (by unfold stepP; rw [if_neg h0, if_pos h1, if_neg (by omega)])) (fun h' => ?_)
      exact go (p + 1) (by omega) (by unfold stepP; rw [if_neg h0, if_pos h1, if_pos (by omega)])
    refine Tells.ite (fun h2 => ?_) (fun h2 => ?_)
    · refine Tells.ite (fun h => ?_) (fun h => no (by unfold stepP; rw [if_neg h0, if_neg h1, if_pos h2, if_neg (by omega)]))
      refine Tells.ite (fun h' => no (by unfold stepP; rw [if_neg h0, if_neg h1, if_pos h2, if_neg (by omega)])) (fun h' => ?_)
      exact go p (by omega) (by unfold stepP; rw [if_neg h0, if_neg h1, if_pos h2, if_pos (by omega)])
    refine Tells.ite (fun h3 => ?_) (fun h3 => ?_)
    · rw [show (m.f0 == 3) = true by simp [h3]]
      exact bin (by omega) (by omega)
    refine Tells.ite (fun h4 => ?_) (fun h4 => ?_)
    · rw [show (m.f0 == 4) = true by simp [h4]]
      exact bin (by omega) (by omega)
    by_cases h5 : m.f0 = 5
    · rw [show (m.f0 == 5) = true by simp [h5]]
      exact bin (by omega) (by omega)
    · rw [show (m.f0 == 5) = false by simp [h5]]
      refine Tells.step (fun k => by rw [impl_TermOk.j2]) ?_
      refine Tells.neg (by decide) ?_
      exact no (by unfold stepP; rw [if_neg h0, if_neg h1, if_neg h2, if_neg (by omega)])
theorem impl_termOk (n : Int) (s : List Mk) : Tells (fun k => impl_TermOk.f k n s) (TermP n s) := by
  unfold impl_TermOk.f
  refine Tells.bindc (peopleOkT n) ?_
  have no : ¬ TermP n s → Tells (fun k => impl_TermOk.j0 k n s true) (TermP n s) := fun h => by
    refine Tells.step (fun k => by rw [impl_TermOk.j0]) ?_
    exact Tells.pos rfl (Tells.no h)
  refine Tells.ite (fun h => ?_) (fun h => no fun h' => h (decide_eq_true h'.1))
  have hn := of_decide_eq_true h
  refine Tells.ite (fun h1 => no fun h' => ?_) (fun h1 => ?_)
  · have : s = [] := List.eq_nil_of_length_eq_zero (by omega)
    subst this
    simp [TermP, foldP] at h'
  by_cases h2 : (s.length : Int) > 15
  · rw [decide_eq_true h2]
    exact no fun h' => by have := h'.2.1; omega
  · rw [decide_eq_false h2]
    refine Tells.step (fun k => by rw [impl_TermOk.j0]) ?_
    refine Tells.neg (by decide) ?_
    refine (impl_termOk_l n s hn (by omega) s.length 0 0 (by omega) (by omega)).iff ?_
    rw [List.drop_zero]
    exact ⟨fun h => ⟨hn, by omega, h⟩, fun h => h.2.2⟩
end Go.Proofs.Ytbhmippoeimliaa.M

/- Claims and stories: who makes them, and that they are some. -/
set_option linter.unusedVariables false
set_option linter.unusedSimpArgs false
namespace Go.Proofs.Ytbhmippoeimliaa.M
open Go Go.RowKit Go.Proofs.YtbhmippoeimliaaW.PrintWords Go.Proofs.Ytbhmippoeimliaa.P
abbrev Cl := S83
abbrev zC : Cl := z83
theorem rdC (s : List Cl) (i : Nat) : rd_T83 s (i : Int) = s.getD i zC := by simp [rd_T83]
/-! ### claims and stories -/
def ClaimP (n who : Int) (l : List Mk) : Prop := 0 ≤ who ∧ who < n ∧ TermP n l ∧ l.length ≤ 13
instance (n who : Int) (l : List Mk) : Decidable (ClaimP n who l) := by unfold ClaimP; infer_instance
theorem impl_claimOk (n who : Int) (l : List Mk) : Tells (fun k => impl_ClaimOk.f k n who l) (ClaimP n who l) := by
  unfold impl_ClaimOk.f
  refine Tells.bindc (peopleOkT n) ?_
  refine Tells.ite (fun h => ?_) (fun h => Tells.no fun h' => h (decide_eq_true h'.2.2.1.1))
  refine Tells.ite (fun h0 => ?_) (fun h0 => Tells.no fun h' => h0 h'.1)
  refine Tells.ite (fun h1 => ?_) (fun h1 => Tells.no fun h' => h1 h'.2.1)
  obtain ⟨b, hb, hi⟩ := impl_termOk n l
  refine Tells.bind hb ?_
  refine Tells.ite (fun h2 => Tells.dec ?_) (fun h2 => Tells.no fun h' => h2 (hi.2 h'.2.2.1))
  exact ⟨fun h => ⟨h0, h1, hi.1 h2, by omega⟩, fun h => by have := h.2.2.2; omega⟩
def StoryP (n : Int) (s : List Cl) : Prop := (∀ i, i < s.length → ClaimP n (s.getD i zC).f0 (s.getD i zC).f1) ∧ (1 ≤ n ∧ n ≤ 4) ∧ s.length ≤ 6
end Go.Proofs.Ytbhmippoeimliaa.M

/- The reference's TermOk tells whether a row is a term. -/
set_option linter.unusedVariables false
set_option linter.unusedSimpArgs false
namespace Go.Proofs.Ytbhmippoeimliaa.M
open Go Go.RowKit Go.Proofs.YtbhmippoeimliaaW.PrintWords Go.Proofs.Ytbhmippoeimliaa.P
theorem l1InT (a b c : Int) : spec_l1In.f a b c = some (decide (b ≤ a ∧ a ≤ c)) := by
  unfold spec_l1In.f
  by_cases h : a ≥ b
  · rw [if_pos h]
    simp [h]
  · rw [if_neg h]
    simp
    intro h'
    omega
/-- No mark is beyond the machine's whole numbers. -/
def M64 (s : List Mk) : Prop := ∀ i : Nat, (s.getD i zM).f1 ≤ 9223372036854775807
theorem spec_termOk_l (n : Int) (hb : n ≤ 9223372036854775807) (s : List Mk) (h64 : M64 s) (hs : s.length < 4611686018427387904) : ∀ d i p : Nat, i + d = s.length → p ≤ i →
    Tells (fun k => spec_TermOk.l0 k n s (p : Int) (i : Int)) (foldP n p (s.drop i) = some 1 ∧ (1 ≤ n ∧ n ≤ 4) ∧ s.length ≤ 15) := by
  intro d
  induction d with
  | zero =>
    intro i p hi hp
    refine Tells.step (fun k => by rw [spec_TermOk.l0]) ?_
    refine Tells.neg (by omega) ?_
    rw [List.drop_eq_nil_of_le (by omega)]
    refine Tells.bindc (l1InT n 1 4) ?_
    simp only [foldP, Option.some.injEq]
    refine Tells.ite (fun h => ?_) (fun h => Tells.no fun h' => h (decide_eq_true h'.2.1))
    have hn := of_decide_eq_true h
    refine Tells.ite (fun h1 => Tells.dec ?_) (fun h1 => Tells.no fun h' => h1 (by omega))
    exact ⟨fun h => ⟨by omega, hn, by omega⟩, fun h => by omega⟩
  | succ d ih =>
    intro i p hi hp
    refine Tells.step (fun k => by rw [spec_TermOk.l0]) ?_
    rw [foldP_drop n p s i (by omega), rdM]
    refine Tells.pos (by omega) ?_
    refine Tells.pos (by omega) ?_
    have hm64 := h64 i
    generalize hm : s.getD i zM = m at hm64
    have go : ∀ q, q ≤ i + 1 → stepP n p m = some q → Tells (fun k => spec_TermOk.l0 k n s (q : Int) ((i + 1 : Nat) : Int)) ((stepP n p m).bind (fun q => foldP n q (s.drop (i + 1))) = some 1 ∧ (1 ≤ n ∧ n ≤ 4) ∧ s.length ≤ 15) := fun q hq e => by
      rw [e]
      exact ih (i + 1) q (by omega) hq
    have no : stepP n p m = none → Tells (fun _ => some false) ((stepP n p m).bind (fun q => foldP n q (s.drop (i + 1))) = some 1 ∧ (1 ≤ n ∧ n ≤ 4) ∧ s.length ≤ 15) := fun e => by
      rw [e]
      exact Tells.no (by simp)
    have j3 : m.f0 ≠ 0 → m.f0 ≠ 1 → ¬ (m.f0 = 2 ∧ m.f1 = 0 ∧ 1 ≤ p) → Tells (fun k => spec_TermOk.j3 k n s (p : Int) (i : Int) false) ((stepP n p m).bind (fun q => foldP n q (s.drop (i + 1))) = some 1 ∧ (1 ≤ n ∧ n ≤ 4) ∧ s.length ≤ 15) := fun h0 h1 h2 => by
      refine Tells.step (fun k => by rw [spec_TermOk.j3]) ?_
      rw [rdM, hm, w64s (by omega)]
      refine Tells.neg (by decide) ?_
      refine Tells.pos (by omega) ?_
      refine Tells.pos (by omega) ?_
      refine Tells.bindc (l1InT m.f0 3 5) ?_
      have bad : ¬ (3 ≤ m.f0 ∧ m.f0 ≤ 5 ∧ m.f1 = 0 ∧ 2 ≤ p) → stepP n p m = none := fun hb => by
        unfold stepP
        rw [if_neg h0, if_neg h1]
        by_cases h2' : m.f0 = 2
        · rw [if_pos h2', if_neg (fun h => h2 ⟨h2', h.1, h.2⟩)]
        · rw [if_neg h2']
          by_cases h3 : 3 ≤ m.f0 ∧ m.f0 ≤ 5
          · rw [if_pos h3, if_neg (fun h => hb ⟨h3.1, h3.2, h.1, h.2⟩)]
          · rw [if_neg h3]
      refine Tells.ite (fun h3 => ?_) (fun h3 => no (bad fun h => h3 (decide_eq_true ⟨h.1, h.2.1⟩)))
      have h3 := of_decide_eq_true h3
      refine Tells.ite (fun h4 => ?_) (fun h4 => no (bad fun h => h4 h.2.2.1))
      refine Tells.ite (fun h5 => ?_) (fun h5 => no (bad fun h => h5 (by omega)))
      rw [w64 (x := (p : Int) - 1) (by omega) (by omega), show (p : Int) - 1 = ((p - 1 : Nat) : Int) by omega]
      exact go (p - 1) (by omega) (by unfold stepP; rw [if_neg h0, if_neg h1, if_neg (by omega), if_pos h3, if_pos ⟨h4, by omega⟩])
    have j2 : m.f0 ≠ 0 → ¬ (m.f0 = 1 ∧ 0 ≤ m.f1 ∧ m.f1 ≤ n + 1) → Tells (fun k => spec_TermOk.j2 k n s (p : Int) (i : Int) false) ((stepP n p m).bind (fun q => foldP n q (s.drop (i + 1))) = some 1 ∧ (1 ≤ n ∧ n ≤ 4) ∧ s.length ≤ 15) := fun h0 h1 => by
      refine Tells.step (fun k => by rw [spec_TermOk.j2]) ?_
      rw [rdM, hm]
      refine Tells.neg (by decide) ?_
      refine Tells.pos (by omega) ?_
      refine Tells.pos (by omega) ?_
      by_cases h11 : m.f0 = 1
      · have e : stepP n p m = none := by
          unfold stepP
          rw [if_neg h0, if_pos h11, if_neg (fun h => h1 ⟨h11, h⟩)]
        refine Tells.neg (by simp [h11]) ?_
        refine Tells.step (fun k => by rw [spec_TermOk.j3]) ?_
        rw [rdM, hm]
        refine Tells.neg (by decide) ?_
        refine Tells.pos (by omega) ?_
        refine Tells.pos (by omega) ?_
        refine Tells.bindc (l1InT m.f0 3 5) ?_
        refine Tells.neg (fun h => by have := of_decide_eq_true h; omega) ?_
        exact no e
      refine Tells.ite (fun h2 => ?_) (fun h2 => j3 h0 h11 fun h => h2 (by simp [h.1, h.2.1]))
      have h2 : m.f0 = 2 ∧ m.f1 = 0 := by simpa using h2
      by_cases hp1 : (p : Int) ≥ 1
      · rw [decide_eq_true hp1]
        refine Tells.step (fun k => by rw [spec_TermOk.j3]) ?_
        rw [w64s (by omega)]
        refine Tells.pos rfl ?_
        exact go p (by omega) (by unfold stepP; rw [if_neg h0, if_neg h11, if_pos h2.1, if_pos ⟨h2.2, by omega⟩])
      · rw [decide_eq_false hp1]
        exact j3 h0 h11 fun h => hp1 (by omega)
    have j2t : m.f0 = 1 → 0 ≤ m.f1 → m.f1 ≤ n + 1 → Tells (fun k => spec_TermOk.j2 k n s (p : Int) (i : Int) true) ((stepP n p m).bind (fun q => foldP n q (s.drop (i + 1))) = some 1 ∧ (1 ≤ n ∧ n ≤ 4) ∧ s.length ≤ 15) := fun h0 h1 h2 => by
      refine Tells.step (fun k => by rw [spec_TermOk.j2]) ?_
      rw [w64s (by omega), w64s (by omega)]
      refine Tells.pos rfl ?_
      exact go (p + 1) (by omega) (by unfold stepP; rw [if_neg (by omega), if_pos h0, if_pos ⟨h1, h2⟩])
    have j1 : ¬ (m.f0 = 0 ∧ 0 ≤ m.f1 ∧ m.f1 < n) → Tells (fun k => spec_TermOk.j1 k n s (p : Int) (i : Int) false) ((stepP n p m).bind (fun q => foldP n q (s.drop (i + 1))) = some 1 ∧ (1 ≤ n ∧ n ≤ 4) ∧ s.length ≤ 15) := fun h0 => by
      refine Tells.step (fun k => by rw [spec_TermOk.j1]) ?_
      rw [rdM, hm]
      refine Tells.neg (by decide) ?_
      refine Tells.pos (by omega) ?_
      refine Tells.pos (by omega) ?_
      by_cases h00 : m.f0 = 0
      · have e : stepP n p m = none := by
          unfold stepP
          rw [if_pos h00, if_neg (fun h => h0 ⟨h00, h⟩)]
        refine Tells.neg (by omega) ?_
        refine Tells.step (fun k => by rw [spec_TermOk.j2]) ?_
        rw [rdM, hm]
        refine Tells.neg (by decide) ?_
        refine Tells.pos (by omega) ?_
        refine Tells.pos (by omega) ?_
        refine Tells.neg (by simp [h00]) ?_
        refine Tells.step (fun k => by rw [spec_TermOk.j3]) ?_
        rw [rdM, hm]
        refine Tells.neg (by decide) ?_
        refine Tells.pos (by omega) ?_
        refine Tells.pos (by omega) ?_
        refine Tells.bindc (l1InT m.f0 3 5) ?_
        refine Tells.neg (fun h => by have := of_decide_eq_true h; omega) ?_
        exact no e
      refine Tells.ite (fun h1 => ?_) (fun h1 => j2 h00 fun h => h1 h.1)
      refine Tells.ite (fun h2 => ?_) (fun h2 => j2 h00 fun h => h2 h.2.1)
      refine Tells.ite (fun h3 => j2t h1 h2 (by omega)) (fun h3 => ?_)
      by_cases h4 : wrap64 (m.f1 - 1) = n
      · rw [show (wrap64 (m.f1 - 1) == n) = true by simp [h4]]
        exact j2t h1 h2 (by rw [w64 (by omega) (by omega)] at h4; omega)
      · rw [show (wrap64 (m.f1 - 1) == n) = false by simp [h4]]
        exact j2 h00 fun h => h4 (by rw [w64 (by omega) (by omega)]; omega)
    refine Tells.ite (fun h0 => ?_) (fun h0 => j1 fun h => h0 h.1)
    refine Tells.ite (fun h1 => ?_) (fun h1 => j1 fun h => h1 h.2.1)
    by_cases h2 : m.f1 < n
    · rw [decide_eq_true h2]
      refine Tells.step (fun k => by rw [spec_TermOk.j1]) ?_
      rw [w64s (by omega), w64s (by omega)]
      refine Tells.pos rfl ?_
      exact go (p + 1) (by omega) (by unfold stepP; rw [if_pos h0, if_pos ⟨h1, h2⟩])
    · rw [decide_eq_false h2]
      exact j1 fun h => h2 h.2.2
theorem spec_termOk (n : Int) (hb : n ≤ 9223372036854775807) (s : List Mk) (h64 : M64 s) (hs : s.length < 4611686018427387904) : Tells (fun k => spec_TermOk.f k n s) (TermP n s) := by
  unfold spec_TermOk.f
  refine (spec_termOk_l n hb s h64 hs s.length 0 0 (by omega) (by omega)).iff ?_
  rw [List.drop_zero]
  exact ⟨fun h => ⟨h.2.1, h.2.2, h.1⟩, fun h => ⟨h.2.2, h.1, h.2.1⟩⟩
end Go.Proofs.Ytbhmippoeimliaa.M

/- The reference's ClaimOk. -/
set_option linter.unusedVariables false
set_option linter.unusedSimpArgs false
namespace Go.Proofs.Ytbhmippoeimliaa.M
open Go Go.RowKit Go.Proofs.YtbhmippoeimliaaW.PrintWords Go.Proofs.Ytbhmippoeimliaa.P
theorem spec_claimOk (n : Int) (hn : n ≤ 9223372036854775807) (who : Int) (l : List Mk) (h64 : M64 l) (hl : l.length < 4611686018427387904) : Tells (fun k => spec_ClaimOk.f k n who l) (ClaimP n who l) := by
  unfold spec_ClaimOk.f
  refine Tells.ite (fun h0 => ?_) (fun h0 => Tells.no fun h' => h0 h'.1)
  refine Tells.ite (fun h1 => ?_) (fun h1 => Tells.no fun h' => h1 h'.2.1)
  obtain ⟨b, hb, hi⟩ := spec_termOk n hn l h64 hl
  refine Tells.bind hb ?_
  refine Tells.ite (fun h2 => Tells.dec ?_) (fun h2 => Tells.no fun h' => h2 (hi.2 h'.2.2.1))
  exact ⟨fun h => ⟨h0, h1, hi.1 h2, by omega⟩, fun h => by have := h.2.2.2; omega⟩
/-- Nothing in the story is beyond the machine's numbers. -/
def S64 (s : List Cl) : Prop := s.length < 4611686018427387904 ∧ ∀ i, M64 (s.getD i zC).f1 ∧ (s.getD i zC).f1.length < 4611686018427387904
end Go.Proofs.Ytbhmippoeimliaa.M

/- Terms as trees. -/
set_option linter.unusedVariables false
set_option linter.unusedSimpArgs false
namespace Go.Proofs.Ytbhmippoeimliaa.M
open Go Go.RowKit Go.Proofs.YtbhmippoeimliaaW.PrintWords Go.Proofs.Ytbhmippoeimliaa.P

inductive Tm
  | leaf (m : Mk)
  | neg (t : Tm)
  | bin (c : Int) (a b : Tm)
def Tm.enc : Tm → List Mk
  | .leaf m => [m]
  | .neg t => t.enc ++ [⟨2, 0⟩]
  | .bin c a b => a.enc ++ b.enc ++ [⟨c, 0⟩]
def Tm.Ok (n : Int) : Tm → Prop
  | .leaf m => (m.f0 = 0 ∧ 0 ≤ m.f1 ∧ m.f1 < n) ∨ (m.f0 = 1 ∧ 0 ≤ m.f1 ∧ m.f1 ≤ n + 1)
  | .neg t => t.Ok n
  | .bin c a b => (c = 3 ∨ c = 4 ∨ c = 5) ∧ a.Ok n ∧ b.Ok n
def heads (w : Nat) : Nat := bitN w 0 + bitN w 1 + bitN w 2 + bitN w 3
def op2 (c : Int) (a b : Bool) : Bool := if c = 3 then a && b else if c = 4 then a || b else a == b
def Tm.val (w : Nat) : Tm → Bool
  | .leaf m => if m.f0 = 0 then bitN w m.f1.toNat == 1 else decide (m.f1 ≤ (heads w : Int))
  | .neg t => !t.val w
  | .bin c a b => op2 c (a.val w) (b.val w)
theorem Tm.enc_pos (t : Tm) : 0 < t.enc.length := by
  cases t <;> simp [Tm.enc] <;> try omega
/-- The parts, the last one first. -/
def flat : List Tm → List Mk
  | [] => []
  | t :: r => flat r ++ t.enc
theorem parse (n : Int) : ∀ (l : List Mk) (r : List Tm) (q : Nat), (∀ t ∈ r, t.Ok n) → foldP n r.length l = some q →
    ∃ r' : List Tm, r'.length = q ∧ (∀ t ∈ r', t.Ok n) ∧ flat r ++ l = flat r' := by
  intro l
  induction l with
  | nil =>
    intro r q hr h
    refine ⟨r, by simpa [foldP] using h, hr, by simp⟩
  | cons m l ih =>
    intro r q hr h
    simp only [foldP] at h
    obtain ⟨p, hp, h⟩ := Option.bind_eq_some_iff.1 h
    unfold stepP at hp
    have leaf : Tm.Ok n (.leaf m) → p = r.length + 1 → ∃ r' : List Tm, r'.length = q ∧ (∀ t ∈ r', t.Ok n) ∧ flat r ++ m :: l = flat r' := fun hk e => by
      subst e
      obtain ⟨r', h1, h2, h3⟩ := ih (.leaf m :: r) q (by
        intro t ht
        rcases List.mem_cons.1 ht with rfl | ht
        · exact hk
        · exact hr t ht) h
      refine ⟨r', h1, h2, ?_⟩
      rw [← h3]
      simp [flat, Tm.enc]
    split at hp
    · rename_i h0
      split at hp
      · rename_i h1
        exact leaf (.inl ⟨h0, h1.1, h1.2⟩) (Option.some.inj hp).symm
      · cases hp
    split at hp
    · rename_i h0
      split at hp
      · rename_i h1
        exact leaf (.inr ⟨h0, h1.1, h1.2⟩) (Option.some.inj hp).symm
      · cases hp
    split at hp
    · rename_i h0
      split at hp
      · rename_i h1
        obtain rfl := Option.some.inj hp
        match r, hr, h1.2, h with
        | t :: r, hr, _, h =>
          obtain ⟨r', e1, e2, e3⟩ := ih (.neg t :: r) q (by
            intro x hx
            rcases List.mem_cons.1 hx with rfl | hx
            · exact hr t (by simp)
            · exact hr x (by simp [hx])) h
          refine ⟨r', e1, e2, ?_⟩
          rw [← e3]
          obtain ⟨m0, m1⟩ := m
          obtain rfl : m0 = 2 := h0
          obtain rfl : m1 = 0 := h1.1
          simp [flat, Tm.enc]
      · cases hp
    split at hp
    · rename_i h0
      split at hp
      · rename_i h1
        obtain rfl := Option.some.inj hp
        match r, hr, h1.2, h with
        | b :: a :: r, hr, _, h =>
          obtain ⟨r', e1, e2, e3⟩ := ih (.bin m.f0 a b :: r) q (by
            intro x hx
            rcases List.mem_cons.1 hx with rfl | hx
            · exact ⟨by omega, hr a (by simp), hr b (by simp)⟩
            · exact hr x (by simp [hx])) h
          refine ⟨r', e1, e2, ?_⟩
          rw [← e3]
          obtain ⟨m0, m1⟩ := m
          obtain rfl : m1 = 0 := h1.1
          simp [flat, Tm.enc]
      · cases hp
    · cases hp
/-- A term is what a tree writes. -/
theorem TermP.tree {n : Int} {l : List Mk} (h : TermP n l) : ∃ t : Tm, t.Ok n ∧ l = t.enc := by
  obtain ⟨r, h1, h2, h3⟩ := parse n l [] 1 (by simp) h.2.2
  match r, h1, h2, h3 with
  | [t], _, h2, h3 => exact ⟨t, h2 t (by simp), by simpa [flat] using h3⟩
/-- What a tree writes adds one part. -/
theorem fold_enc (n : Int) (t : Tm) : ∀ (p : Nat) (l : List Mk), t.Ok n → foldP n p (t.enc ++ l) = foldP n (p + 1) l := by
  induction t with
  | leaf m =>
    intro p l h
    simp only [Tm.enc, List.singleton_append, foldP]
    rcases h with ⟨h0, h1⟩ | ⟨h0, h1⟩
    · unfold stepP
      rw [if_pos h0, if_pos h1]
      rfl
    · unfold stepP
      rw [if_neg (by omega), if_pos h0, if_pos h1]
      rfl
  | neg t ih =>
    intro p l h
    simp only [Tm.enc, List.append_assoc, List.singleton_append]
    rw [ih p _ h]
    simp [foldP, stepP]
  | bin c a b iha ihb =>
    intro p l h
    obtain ⟨hc, ha, hb⟩ := h
    simp only [Tm.enc, List.append_assoc, List.singleton_append]
    rw [iha p _ ha, ihb _ _ hb]
    simp only [foldP, stepP]
    rw [if_neg (by omega), if_neg (by omega), if_neg (by omega), if_pos (by omega), if_pos ⟨trivial, by omega⟩]
    rfl
theorem termP_enc (n : Int) (t : Tm) (hn : 1 ≤ n ∧ n ≤ 4) (ht : t.Ok n) (hl : t.enc.length ≤ 15) : TermP n t.enc := by
  refine ⟨hn, hl, ?_⟩
  have := fold_enc n t 0 [] ht
  rw [List.append_nil] at this
  rw [this]
  rfl

/-! ### how many tell the truth in a world -/
end Go.Proofs.Ytbhmippoeimliaa.M

/- LinksOk of the program and of the reference tell whether these are links. -/
set_option linter.unusedVariables false
set_option linter.unusedSimpArgs false
namespace Go.Proofs.Ytbhmippoeimliaa.M
open Go Go.RowKit Go.Proofs.YtbhmippoeimliaaW.PrintWords Go.Proofs.Ytbhmippoeimliaa.P
abbrev Lnk := S31
abbrev zL : Lnk := z31
theorem l1InL (a b c : Int) : spec_l1In.f a b c = some (decide (b ≤ a ∧ a ≤ c)) := by
  unfold spec_l1In.f
  by_cases h : a ≥ b
  · rw [if_pos h]
    simp [h]
  · rw [if_neg h]
    simp
    intro h'
    omega
theorem peopleOkL (n : Int) : impl_peopleOk.f n = some (decide (1 ≤ n ∧ n ≤ 4)) := by
  unfold impl_peopleOk.f
  by_cases h : n ≥ 1
  · rw [if_pos h]
    simp [h]
  · rw [if_neg h]
    simp
    intro h'
    omega
theorem rdLnk (s : List Lnk) (i : Nat) : rd_T31 s (i : Int) = s.getD i zL := by simp [rd_T31]
theorem from_succL {P : Nat → Prop} {n j : Nat} (h0 : P j) (h : ∀ j', j + 1 ≤ j' → j' < n → P j') : ∀ j', j ≤ j' → j' < n → P j' := fun j' h1 h2 => by
  rcases Nat.eq_or_lt_of_le h1 with e | e
  · exact e ▸ h0
  · exact h j' e h2
/-- A link of so many people. -/
def LinkIn (n : Int) (l : Lnk) : Prop := 0 ≤ l.f0 ∧ l.f0 < n ∧ 0 ≤ l.f1 ∧ l.f1 < n
def LinksP (n : Int) (s : List Lnk) : Prop := (∀ i, i < s.length → LinkIn n (s.getD i zL)) ∧ (1 ≤ n ∧ n ≤ 4) ∧ s.length ≤ 6
theorem impl_links_l (n : Int) (s : List Lnk) (hn : s.length < 4611686018427387904) : ∀ d i : Nat, i + d = s.length →
    Tells (fun k => impl_LinksOk.l0 k n s s (s.length : Int) (i : Int)) ((∀ i', i ≤ i' → i' < s.length → LinkIn n (s.getD i' zL)) ∧ (1 ≤ n ∧ n ≤ 4) ∧ s.length ≤ 6) := by
  intro d
  induction d with
  | zero =>
    intro i hi
    refine Tells.step (fun k => by rw [impl_LinksOk.l0]) ?_
    refine Tells.neg (by omega) ?_
    refine Tells.bindc (peopleOkL n) ?_
    refine Tells.ite (fun h => Tells.dec ?_) (fun h => Tells.no fun h' => h (decide_eq_true h'.2.1))
    have h := of_decide_eq_true h
    exact ⟨fun h' => ⟨fun i' h1 h2 => by omega, h, by omega⟩, fun h' => by omega⟩
  | succ d ih =>
    intro i hi
    refine Tells.step (fun k => by rw [impl_LinksOk.l0]) ?_
    rw [rdLnk, w64s (by omega)]
    refine Tells.pos (by omega) ?_
    refine Tells.pos (by omega) ?_
    refine Tells.pos (by omega) ?_
    have no : ¬ LinkIn n (s.getD i zL) → Tells (fun _ => some false) ((∀ i', i ≤ i' → i' < s.length → LinkIn n (s.getD i' zL)) ∧ (1 ≤ n ∧ n ≤ 4) ∧ s.length ≤ 6) := fun h => Tells.no fun h' => h (h'.1 i (Nat.le_refl _) (by omega))
    refine Tells.ite (fun h => no fun h' => by have := h'.1; omega) (fun h1 => ?_)
    refine Tells.ite (fun h => no fun h' => by have := h'.2.1; omega) (fun h2 => ?_)
    refine Tells.ite (fun h => no fun h' => by have := h'.2.2.1; omega) (fun h3 => ?_)
    refine Tells.ite (fun h => no fun h' => by have := h'.2.2.2; omega) (fun h4 => ?_)
    refine (ih (i + 1) (by omega)).iff ⟨fun h => ⟨from_succL ⟨by omega, by omega, by omega, by omega⟩ h.1, h.2⟩, fun h => ⟨fun i' a b => h.1 i' (by omega) b, h.2⟩⟩
theorem impl_links (n : Int) (s : List Lnk) (hn : s.length < 4611686018427387904) : Tells (fun k => impl_LinksOk.f k n s) (LinksP n s) :=
  Tells.iff (impl_links_l n s hn s.length 0 (by omega)) ⟨fun h => ⟨fun i hi => h.1 i (by omega) hi, h.2⟩, fun h => ⟨fun i _ hi => h.1 i hi, h.2⟩⟩
theorem spec_links_l (n : Int) (s : List Lnk) (hn : s.length < 4611686018427387904) : ∀ d i : Nat, i + d = s.length →
    Tells (fun k => spec_LinksOk.l0 k n s (i : Int)) ((∀ i', i ≤ i' → i' < s.length → LinkIn n (s.getD i' zL)) ∧ (1 ≤ n ∧ n ≤ 4) ∧ s.length ≤ 6) := by
  intro d
  induction d with
  | zero =>
    intro i hi
    refine Tells.step (fun k => by rw [spec_LinksOk.l0]) ?_
    refine Tells.neg (by omega) ?_
    refine Tells.bindc (l1InL _ _ _) ?_
    refine Tells.ite (fun h => Tells.dec ?_) (fun h => Tells.no fun h' => h (decide_eq_true h'.2.1))
    have h := of_decide_eq_true h
    exact ⟨fun h' => ⟨fun i' h1 h2 => by omega, h, by omega⟩, fun h' => by omega⟩
  | succ d ih =>
    intro i hi
    refine Tells.step (fun k => by rw [spec_LinksOk.l0]) ?_
    rw [rdLnk, w64s (by omega)]
    refine Tells.pos (by omega) ?_
    refine Tells.pos (by omega) ?_
    have no : ¬ LinkIn n (s.getD i zL) → Tells (fun _ => some false) ((∀ i', i ≤ i' → i' < s.length → LinkIn n (s.getD i' zL)) ∧ (1 ≤ n ∧ n ≤ 4) ∧ s.length ≤ 6) := fun h => Tells.no fun h' => h (h'.1 i (Nat.le_refl _) (by omega))
    refine Tells.ite (fun h => no fun h' => by have := h'.1; omega) (fun h1 => ?_)
    refine Tells.ite (fun h => no fun h' => by have := h'.2.1; omega) (fun h2 => ?_)
    refine Tells.ite (fun h => no fun h' => by have := h'.2.2.1; omega) (fun h3 => ?_)
    refine Tells.ite (fun h => no fun h' => by have := h'.2.2.2; omega) (fun h4 => ?_)
    refine (ih (i + 1) (by omega)).iff ⟨fun h => ⟨from_succL ⟨by omega, by omega, by omega, by omega⟩ h.1, h.2⟩, fun h => ⟨fun i' a b => h.1 i' (by omega) b, h.2⟩⟩
theorem spec_links (n : Int) (s : List Lnk) (hn : s.length < 4611686018427387904) : Tells (fun k => spec_LinksOk.f k n s) (LinksP n s) :=
  Tells.iff (spec_links_l n s hn s.length 0 (by omega)) ⟨fun h => ⟨fun i hi => h.1 i (by omega) hi, h.2⟩, fun h => ⟨fun i _ hi => h.1 i hi, h.2⟩⟩
open Classical in
noncomputable def linksB (n : Int) (s : List Lnk) : Bool := decide (LinksP n s)
theorem linksB_iff (n : Int) (s : List Lnk) : linksB n s = true ↔ LinksP n s := by simp [linksB]
theorem impl_linksE (n : Int) (s : List Lnk) (hn : s.length < 4611686018427387904) : Ev (fun k => impl_LinksOk.f k n s) (linksB n s) := (impl_links n s hn).ev (linksB_iff n s)
theorem spec_linksE (n : Int) (s : List Lnk) (hn : s.length < 4611686018427387904) : Ev (fun k => spec_LinksOk.f k n s) (linksB n s) := (spec_links n s hn).ev (linksB_iff n s)
end Go.Proofs.Ytbhmippoeimliaa.M

/- The story of links: both LinkStory tell it. -/
set_option linter.unusedVariables false
set_option linter.unusedSimpArgs false
namespace Go.Proofs.Ytbhmippoeimliaa.M
open Go Go.RowKit Go.Proofs.YtbhmippoeimliaaW.PrintWords Go.Proofs.Ytbhmippoeimliaa.P
/-- What a link says. -/
def linkM (l : Lnk) : List Mk := if l.f2 = true then [⟨0, l.f1⟩] else [⟨0, l.f1⟩, ⟨2, 0⟩]
def linkC (l : Lnk) : Cl := ⟨l.f0, linkM l⟩
theorem linkM_len (l : Lnk) : (linkM l).length ≤ 2 := by
  unfold linkM
  split <;> simp
theorem linkM_ok (n : Int) (l : Lnk) (hn : 1 ≤ n ∧ n ≤ 4) (h : LinkIn n l) : ClaimP n l.f0 (linkM l) := by
  obtain ⟨h0, h1, h2, h3⟩ := h
  refine ⟨h0, h1, ?_, by have := linkM_len l; omega⟩
  unfold linkM
  split
  · exact termP_enc n (.leaf ⟨0, l.f1⟩) hn (.inl ⟨rfl, h2, h3⟩) (by simp [Tm.enc])
  · exact termP_enc n (.neg (.leaf ⟨0, l.f1⟩)) hn (show Tm.Ok n (.leaf ⟨0, l.f1⟩) from .inl ⟨rfl, h2, h3⟩) (by simp [Tm.enc])
theorem linkM_64 (n : Int) (l : Lnk) (hn : 1 ≤ n ∧ n ≤ 4) (h : LinkIn n l) : M64 (linkM l) := by
  obtain ⟨h0, h1, h2, h3⟩ := h
  refine getD_all (linkM l) zM (fun m => m.f1 ≤ 9223372036854775807) (by decide) fun m hm => ?_
  unfold linkM at hm
  split at hm
  · obtain rfl : m = ⟨0, l.f1⟩ := by simpa using hm
    show l.f1 ≤ _
    omega
  · rcases List.mem_cons.1 hm with rfl | hm
    · show l.f1 ≤ _
      omega
    · obtain rfl : m = ⟨2, 0⟩ := by simpa using hm
      decide
theorem impl_clone (l : List Mk) (h : l.length < 8796093022208) : impl_Mark.f l = some l := by
  unfold impl_Mark.f
  simp [h]
theorem impl_claimByE (n who : Int) (l : List Mk) (h : ClaimP n who l) : Ev (fun k => impl_claimBy.f k n who l) (who, l, true) := by
  have hl := h.2.2.2
  unfold impl_claimBy.f
  refine ev_bindc (impl_clone l (by omega)) ?_
  refine ev_bind ((impl_claimOk n who l).ev (b := true) ⟨fun _ => h, fun _ => rfl⟩) ?_
  exact ev_pos rfl (ev_ret rfl)
theorem impl_kindE (n : Int) (l : Lnk) (hn : 1 ≤ n ∧ n ≤ 4) (h : LinkIn n l) : Ev (fun k => impl_KindClaim.f k n l.f0 l.f1 l.f2) (l.f0, linkM l, true) := by
  have hc := linkM_ok n l hn h
  unfold impl_KindClaim.f
  refine ev_bindc rfl ?_
  unfold linkM at *
  by_cases ht : l.f2 = true
  · rw [if_pos ht] at *
    refine ev_pos ht ?_
    exact ev_bind (impl_claimByE n _ _ hc) (ev_ret rfl)
  · rw [if_neg ht] at *
    refine ev_neg ht ?_
    refine ev_pos (by simp) ?_
    exact ev_bind (impl_claimByE n _ _ hc) (ev_ret rfl)
theorem spec_kindE (n : Int) (l : Lnk) (hn : 1 ≤ n ∧ n ≤ 4) (h : LinkIn n l) : Ev (fun k => spec_KindClaim.f k n l.f0 l.f1 l.f2) (l.f0, linkM l, true) := by
  have hc := linkM_ok n l hn h
  have h64 := linkM_64 n l hn h
  have hlen := linkM_len l
  unfold spec_KindClaim.f
  refine ev_bindc rfl ?_
  unfold linkM at *
  by_cases ht : l.f2 = true
  · rw [if_pos ht] at *
    refine ev_pos ht ?_
    refine ev_bind ((spec_claimOk n (by omega) _ _ h64 (by omega)).ev (b := true) ⟨fun _ => hc, fun _ => rfl⟩) ?_
    exact ev_pos rfl (ev_ret rfl)
  · rw [if_neg ht] at *
    refine ev_neg ht ?_
    refine ev_pos (by simp) ?_
    refine ev_bindc rfl ?_
    refine ev_bind ((spec_claimOk n (by omega) _ _ h64 (by omega)).ev (b := true) ⟨fun _ => hc, fun _ => rfl⟩) ?_
    exact ev_pos rfl (ev_ret rfl)
theorem map_take_succ (s : List Lnk) (i : Nat) (h : i < s.length) : (s.take i).map linkC ++ [linkC (s.getD i zL)] = (s.take (i + 1)).map linkC := by
  rw [List.take_add_one, List.map_append, getD_lt s zL i h, List.getElem?_eq_getElem h]
  rfl
theorem impl_linkStory_l (n : Int) (s : List Lnk) (h : LinksP n s) : ∀ d i : Nat, i + d = s.length →
    Ev (fun k => impl_LinkStory.l0 k n ((s.take i).map linkC) s (s.length : Int) (i : Int)) (s.map linkC, true) := by
  intro d
  have hl := h.2.2
  induction d with
  | zero =>
    intro i hi
    refine Ev.step (fun k => by rw [impl_LinkStory.l0]) ?_
    refine ev_neg (by omega) (ev_ret ?_)
    rw [List.take_of_length_le (by omega)]
  | succ d ih =>
    intro i hi
    refine Ev.step (fun k => by rw [impl_LinkStory.l0]) ?_
    rw [rdLnk, w64s (i := i) (by omega)]
    refine ev_pos (by omega) ?_
    refine ev_pos (by omega) ?_
    refine ev_pos (by omega) ?_
    refine ev_bind (impl_kindE n _ h.2.1 (h.1 i (by omega))) ?_
    refine ev_pos (by simp; omega) ?_
    have := ih (i + 1) (by omega)
    rw [← map_take_succ s i (by omega)] at this
    exact this
theorem spec_linkStory_l (n : Int) (s : List Lnk) (h : LinksP n s) : ∀ d i : Nat, i + d = s.length →
    Ev (fun k => spec_LinkStory.l0 k n s ((s.take i).map linkC) (i : Int)) (s.map linkC, true) := by
  intro d
  have hl := h.2.2
  induction d with
  | zero =>
    intro i hi
    refine Ev.step (fun k => by rw [spec_LinkStory.l0]) ?_
    refine ev_neg (by omega) (ev_ret ?_)
    rw [List.take_of_length_le (by omega)]
  | succ d ih =>
    intro i hi
    refine Ev.step (fun k => by rw [spec_LinkStory.l0]) ?_
    rw [rdLnk, w64s (i := i) (by omega)]
    refine ev_pos (by omega) ?_
    refine ev_pos (by omega) ?_
    refine ev_bind (spec_kindE n _ h.2.1 (h.1 i (by omega))) ?_
    refine ev_pos (by simp; omega) ?_
    have := ih (i + 1) (by omega)
    rw [← map_take_succ s i (by omega)] at this
    exact this
/-- LinkStory, as both tell it. -/
noncomputable def linkStoryF (n : Int) (s : List Lnk) : List Cl × Bool := if linksB n s = true then (s.map linkC, true) else ([], false)
theorem impl_linkStoryE (n : Int) (s : List Lnk) (hs : s.length < 4611686018427387904) : Ev (fun k => impl_LinkStory.f k n s) (linkStoryF n s) := by
  unfold impl_LinkStory.f linkStoryF
  refine ev_bind (impl_linksE n s hs) ?_
  by_cases h : linksB n s = true
  · refine ev_pos h ?_
    rw [if_pos h]
    exact impl_linkStory_l n s ((linksB_iff n s).1 h) s.length 0 (by omega)
  · refine ev_neg h (ev_ret ?_)
    rw [if_neg h]
theorem spec_linkStoryE (n : Int) (s : List Lnk) (hs : s.length < 4611686018427387904) : Ev (fun k => spec_LinkStory.f k n s) (linkStoryF n s) := by
  unfold spec_LinkStory.f linkStoryF
  refine ev_bindc rfl ?_
  refine ev_bind (spec_linksE n s hs) ?_
  by_cases h : linksB n s = true
  · refine ev_pos h ?_
    rw [if_pos h]
    exact spec_linkStory_l n s ((linksB_iff n s).1 h) s.length 0 (by omega)
  · refine ev_neg h (ev_ret ?_)
    rw [if_neg h]
theorem linkStory_ok (n : Int) (s : List Lnk) (h : LinksP n s) : StoryP n (s.map linkC) := by
  refine ⟨fun i hi => ?_, h.2.1, by simpa using h.2.2⟩
  rw [List.length_map] at hi
  have e : (s.map linkC).getD i zC = linkC (s.getD i zL) := by
    rw [getD_lt _ _ _ (by simpa using hi), getD_lt _ _ _ hi, List.getElem_map]
  rw [e]
  exact linkM_ok n _ h.2.1 (h.1 i hi)
end Go.Proofs.Ytbhmippoeimliaa.M

/- The exact laws' helpers over links: they measure, turn and compare. -/
set_option linter.unusedVariables false
set_option linter.unusedSimpArgs false
namespace Go.Proofs.Ytbhmippoeimliaa.M
open Go Go.RowKit Go.Proofs.YtbhmippoeimliaaW.PrintWords Go.Proofs.Ytbhmippoeimliaa.P
abbrev LLnk := S94
abbrev zLL : LLnk := z94
theorem rdLLnk (s : List LLnk) (i : Nat) : rd_T94 s (i : Int) = s.getD i zLL := by simp [rd_T94]
def toL (l : LLnk) : Lnk := ⟨l.f0, l.f1, l.f2⟩
theorem sz_links (l : List LLnk) (hl : l.length ≤ maxLen) : ∃ r, laws_szLinkS.f l 1048576 = some r ∧ (0 ≤ r → l.length ≤ 1048576) := by
  unfold maxLen at hl
  unfold laws_szLinkS.f
  rw [w64 (by omega) (by omega)]
  by_cases h : 1048576 - (l.length : Int) < 0
  · exact ⟨-1, if_pos h, fun h => absurd h (by decide)⟩
  · exact ⟨_, if_neg h, fun _ => by omega⟩
theorem to_link (a b : Int) (c : Bool) : laws_toLink.f a b c = some (a, b, c) := rfl
theorem to_links_l (l : List LLnk) (hn : l.length ≤ 1048576) : ∀ d i (x : List Lnk), i + d = l.length → x.length = l.length → (∀ j, j < i → x.getD j zL = toL (l.getD j zLL)) → Ev (fun k => laws_toLinkS.l0 k l x (i : Int)) (l.map toL) := by
  intro d
  induction d with
  | zero =>
    intro i x hi hx h
    refine Ev.step (fun k => by rw [laws_toLinkS.l0]) ?_
    refine ev_neg (by omega) (ev_ret (ext_getD zL x (l.map toL) (by simpa using hx) fun j hj => ?_))
    rw [List.length_map] at hj
    rw [h j (by omega), getD_lt _ _ _ hj, getD_lt _ _ _ (by simpa using hj), List.getElem_map]
  | succ d ih =>
    intro i x hi hx h
    refine Ev.step (fun k => by rw [laws_toLinkS.l0]) ?_
    rw [w64s (by omega), rdLLnk, Int.toNat_natCast]
    refine ev_pos (by omega) ?_
    refine ev_pos (by omega) ?_
    refine ev_bindc (to_link _ _ _) ?_
    refine ev_pos (by omega) ?_
    refine ih (i + 1) _ (by omega) (by simpa using hx) fun j hj => ?_
    rw [set_getD zL x i _ (by omega)]
    split
    · rename_i e
      rw [e]
      rfl
    · exact h j (by omega)
theorem to_links (l : List LLnk) (hn : l.length ≤ 1048576) : Ev (fun k => laws_toLinkS.f k l) (l.map toL) := by
  unfold laws_toLinkS.f
  rw [Int.toNat_natCast]
  refine ev_pos (by omega) ?_
  refine ev_pos (by omega) ?_
  exact to_links_l l hn l.length 0 _ (by omega) (by simp) fun j hj => by omega
theorem eq_link (l : Lnk) : laws_eqLink.f l.f0 l.f1 l.f2 l.f0 l.f1 l.f2 = some true := by
  unfold laws_eqLink.f
  simp
theorem eq_links_l (l : List Lnk) (hn : l.length ≤ 1048576) : ∀ d i, i + d = l.length → Ev (fun k => laws_eqLinkS.l0 k l l (i : Int)) true := by
  intro d
  induction d with
  | zero =>
    intro i hi
    refine Ev.step (fun k => by rw [laws_eqLinkS.l0]) ?_
    exact ev_neg (by omega) (ev_ret rfl)
  | succ d ih =>
    intro i hi
    refine Ev.step (fun k => by rw [laws_eqLinkS.l0]) ?_
    rw [w64s (by omega)]
    refine ev_pos (by omega) ?_
    refine ev_pos (by omega) ?_
    refine ev_pos (by omega) ?_
    refine ev_bindc (eq_link _) ?_
    exact ev_pos rfl (ih (i + 1) (by omega))
theorem eq_links (l : List Lnk) (hn : l.length ≤ 1048576) : Ev (fun k => laws_eqLinkS.f k l l) true := by
  unfold laws_eqLinkS.f
  exact ev_pos rfl (eq_links_l l hn l.length 0 (by omega))
end Go.Proofs.Ytbhmippoeimliaa.M

/- The exact laws' comparing of claims. -/
set_option linter.unusedVariables false
set_option linter.unusedSimpArgs false
namespace Go.Proofs.Ytbhmippoeimliaa.M
open Go Go.RowKit Go.Proofs.YtbhmippoeimliaaW.PrintWords Go.Proofs.Ytbhmippoeimliaa.P
theorem eq_marks_l (l : List Mk) (hn : l.length < 4611686018427387904) : ∀ d i, i + d = l.length → Ev (fun k => laws_eqMarkS.l0 k l l (i : Int)) true := by
  intro d
  induction d with
  | zero =>
    intro i hi
    refine Ev.step (fun k => by rw [laws_eqMarkS.l0]) ?_
    exact ev_neg (by omega) (ev_ret rfl)
  | succ d ih =>
    intro i hi
    refine Ev.step (fun k => by rw [laws_eqMarkS.l0]) ?_
    rw [w64s (by omega)]
    refine ev_pos (by omega) ?_
    refine ev_pos (by omega) ?_
    refine ev_pos (by omega) ?_
    refine ev_bindc (a := true) (by unfold laws_eqMark.f; simp) ?_
    exact ev_pos rfl (ih (i + 1) (by omega))
theorem eq_marks (l : List Mk) (hn : l.length < 4611686018427387904) : Ev (fun k => laws_eqMarkS.f k l l) true := by
  unfold laws_eqMarkS.f
  exact ev_pos rfl (eq_marks_l l hn l.length 0 (by omega))
theorem eq_claims_l (l : List Cl) (hn : l.length < 4611686018427387904) (hm : ∀ j, (l.getD j zC).f1.length < 4611686018427387904) : ∀ d i, i + d = l.length → Ev (fun k => laws_eqClaimS.l0 k l l (i : Int)) true := by
  intro d
  induction d with
  | zero =>
    intro i hi
    refine Ev.step (fun k => by rw [laws_eqClaimS.l0]) ?_
    exact ev_neg (by omega) (ev_ret rfl)
  | succ d ih =>
    intro i hi
    refine Ev.step (fun k => by rw [laws_eqClaimS.l0]) ?_
    rw [w64s (by omega), rdC]
    refine ev_pos (by omega) ?_
    refine ev_pos (by omega) ?_
    refine ev_pos (by omega) ?_
    refine ev_bind (a := true) ?_ ?_
    · unfold laws_eqClaim.f
      refine ev_pos rfl ?_
      exact ev_bind (eq_marks _ (hm i)) (ev_pos rfl (ev_ret rfl))
    · exact ev_pos rfl (ih (i + 1) (by omega))
theorem eq_claims (l : List Cl) (hn : l.length < 4611686018427387904) (hm : ∀ j, (l.getD j zC).f1.length < 4611686018427387904) : Ev (fun k => laws_eqClaimS.f k l l) true := by
  unfold laws_eqClaimS.f
  exact ev_pos rfl (eq_claims_l l hn hm l.length 0 (by omega))
end Go.Proofs.Ytbhmippoeimliaa.M

/- The exact laws' helpers that mark claims and look whether they are still held. -/
set_option linter.unusedVariables false
set_option linter.unusedSimpArgs false
namespace Go.Proofs.Ytbhmippoeimliaa.M
open Go Go.RowKit Go.Proofs.YtbhmippoeimliaaW.PrintWords Go.Proofs.Ytbhmippoeimliaa.P
theorem at_mid {α : Type} (z : α) (p : List α) (c : α) (s : List α) : (p ++ c :: s).getD p.length z = c := by
  rw [List.getD_eq_getElem?_getD, List.getElem?_append_right (Nat.le_refl _), Nat.sub_self]
  rfl
theorem set_mid {α : Type} (p : List α) (c x : α) (s : List α) : (p ++ c :: s).set p.length x = p ++ x :: s := by
  rw [List.set_append_right _ _ (Nat.le_refl _), Nat.sub_self]
  rfl
theorem step_mid {α : Type} (p : List α) (c : α) (s : List α) : p ++ c :: s = (p ++ [c]) ++ s := by simp
def markedM : List Mk → Int → List Mk
  | [], _ => []
  | _ :: s, a => ⟨a, a + 1⟩ :: markedM s (a + 2)
theorem mark_marks_l : ∀ (s p : List Mk) (a : Int), 0 ≤ a → a + 2 * s.length ≤ 2000000000 → p.length + s.length ≤ 2000000000 → Ev (fun k => laws_markMarkS.l0 k (p ++ s) a (p.length : Int)) (a + 2 * s.length, p ++ markedM s a) := by
  intro s
  induction s with
  | nil =>
    intro p a h0 h1 h2
    refine Ev.step (fun k => by rw [laws_markMarkS.l0]) ?_
    exact ev_neg (by simp) (ev_ret (by simp [markedM]))
  | cons c s ih =>
    intro p a h0 h1 h2
    simp only [List.length_cons] at h1 h2
    have := ih (p ++ [⟨a, a + 1⟩]) (a + 2) (by omega) (by omega) (by simp; omega)
    refine Ev.step (fun k => by rw [laws_markMarkS.l0]) ?_
    refine ev_pos (by simp; omega) (ev_pos (by omega) ?_)
    simp only [Option.bind_some, Int.toNat_natCast, set_mid]
    rw [w64s (by omega), w64 (x := a + 1) (by omega) (by omega), w64 (x := a + 1 + 1) (by omega) (by omega)]
    unfold rd_T81
    simp only [Int.toNat_natCast, at_mid]
    rw [show a + 1 + 1 = a + 2 by omega, step_mid, show p.length + 1 = (p ++ [(⟨a, a + 1⟩ : Mk)]).length by simp]
    refine ev_eq this ?_
    simp only [List.length_cons, markedM, Prod.mk.injEq]
    exact ⟨by omega, by simp⟩
theorem markedM_len : ∀ (s : List Mk) (a : Int), (markedM s a).length = s.length
  | [], _ => rfl
  | _ :: s, a => by simp [markedM, markedM_len s]
theorem held_marks_l : ∀ (s p : List Mk) (a : Int), 0 ≤ a → a + 2 * s.length ≤ 2000000000 → p.length + s.length ≤ 2000000000 → Ev (fun k => laws_heldMarkS.l0 k (p ++ markedM s a) a (p.length : Int)) (a + 2 * s.length) := by
  intro s
  induction s with
  | nil =>
    intro p a h0 h1 h2
    refine Ev.step (fun k => by rw [laws_heldMarkS.l0]) ?_
    exact ev_neg (by simp [markedM]) (ev_ret (by simp))
  | cons c s ih =>
    intro p a h0 h1 h2
    simp only [List.length_cons] at h1 h2
    have := ih (p ++ [⟨a, a + 1⟩]) (a + 2) (by omega) (by omega) (by simp; omega)
    refine Ev.step (fun k => by rw [laws_heldMarkS.l0]) ?_
    refine ev_pos (by simp [markedM]; omega) (ev_pos (by omega) ?_)
    unfold rd_T81
    simp only [Int.toNat_natCast, markedM, at_mid]
    rw [w64s (by omega), w64 (x := a + 1) (by omega) (by omega), w64 (x := a + 1 + 1) (by omega) (by omega)]
    refine ev_pos (by simp) (ev_pos (by simp) ?_)
    rw [show a + 1 + 1 = a + 2 by omega, step_mid, show p.length + 1 = (p ++ [(⟨a, a + 1⟩ : Mk)]).length by simp]
    refine ev_eq this ?_
    simp only [List.length_cons]
    omega
def endC : List Cl → Int → Int
  | [], a => a
  | c :: s, a => endC s (a + 1 + 2 * c.f1.length)
def markedC : List Cl → Int → List Cl
  | [], _ => []
  | c :: s, a => ⟨a, markedM c.f1 (a + 1)⟩ :: markedC s (a + 1 + 2 * c.f1.length)
theorem endC_le : ∀ (s : List Cl) (a : Int), a ≤ endC s a
  | [], _ => Int.le_refl _
  | c :: s, a => by
    have := endC_le s (a + 1 + 2 * c.f1.length)
    unfold endC
    omega
theorem mark_claims_l : ∀ (s p : List Cl) (a : Int), 0 ≤ a → endC s a ≤ 1000000000 → p.length + s.length ≤ 1000000000 → Ev (fun k => laws_markClaimS.l0 k (p ++ s) a (p.length : Int)) (endC s a, p ++ markedC s a) := by
  intro s
  induction s with
  | nil =>
    intro p a h0 h1 h2
    refine Ev.step (fun k => by rw [laws_markClaimS.l0]) ?_
    exact ev_neg (by simp) (ev_ret (by simp [markedC, endC]))
  | cons c s ih =>
    intro p a h0 h1 h2
    simp only [List.length_cons, endC] at h1 h2
    have hle := endC_le s (a + 1 + 2 * c.f1.length)
    have := ih (p ++ [⟨a, markedM c.f1 (a + 1)⟩]) (a + 1 + 2 * c.f1.length) (by omega) (by omega) (by simp; omega)
    have hm := mark_marks_l c.f1 [] (a + 1) (by omega) (by omega) (by simp; omega)
    refine Ev.step (fun k => by rw [laws_markClaimS.l0]) ?_
    refine ev_pos (by simp; omega) (ev_pos (by omega) ?_)
    unfold rd_T83
    simp only [Int.toNat_natCast, set_mid, at_mid]
    rw [w64s (by omega), w64 (x := a + 1) (by omega) (by omega)]
    refine ev_bind hm ?_
    dsimp only
    rw [step_mid, show p.length + 1 = (p ++ [(⟨a, [] ++ markedM c.f1 (a + 1)⟩ : Cl)]).length by simp]
    refine ev_eq this ?_
    simp only [endC, markedC, Prod.mk.injEq]
    exact ⟨trivial, by simp⟩
theorem held_claims_l : ∀ (s p : List Cl) (a : Int), 0 ≤ a → endC s a ≤ 1000000000 → p.length + s.length ≤ 1000000000 → Ev (fun k => laws_heldClaimS.l0 k (p ++ markedC s a) a (p.length : Int)) (endC s a) := by
  intro s
  induction s with
  | nil =>
    intro p a h0 h1 h2
    refine Ev.step (fun k => by rw [laws_heldClaimS.l0]) ?_
    exact ev_neg (by simp [markedC]) (ev_ret (by simp [endC]))
  | cons c s ih =>
    intro p a h0 h1 h2
    simp only [List.length_cons, endC] at h1 h2
    have hle := endC_le s (a + 1 + 2 * c.f1.length)
    have := ih (p ++ [⟨a, markedM c.f1 (a + 1)⟩]) (a + 1 + 2 * c.f1.length) (by omega) (by omega) (by simp; omega)
    have hm := held_marks_l c.f1 [] (a + 1) (by omega) (by omega) (by simp; omega)
    refine Ev.step (fun k => by rw [laws_heldClaimS.l0]) ?_
    refine ev_pos (by simp [markedC]; omega) (ev_pos (by omega) ?_)
    unfold rd_T83
    simp only [Int.toNat_natCast, markedC, at_mid]
    rw [w64s (by omega), w64 (x := a + 1) (by omega) (by omega)]
    refine ev_pos (by simp) (ev_bind hm (ev_neg (by omega) ?_))
    rw [step_mid, show p.length + 1 = (p ++ [(⟨a, markedM c.f1 (a + 1)⟩ : Cl)]).length by simp]
    exact ev_eq this rfl
theorem mark_claims (s : List Cl) (h : endC s 1 ≤ 1000000000) (hl : s.length ≤ 1000) : Ev (fun k => laws_markClaimS.f k s 1) (endC s 1, markedC s 1) := by
  unfold laws_markClaimS.f
  exact mark_claims_l s [] 1 (by decide) h (by simp; omega)
theorem held_claims (s : List Cl) (h : endC s 1 ≤ 1000000000) (hl : s.length ≤ 1000) : Ev (fun k => laws_heldClaimS.f k (markedC s 1) 1) (endC s 1) := by
  unfold laws_heldClaimS.f
  exact held_claims_l s [] 1 (by decide) h (by simp; omega)
end Go.Proofs.Ytbhmippoeimliaa.M

/- The exact laws' helper that marks links: it ends, and tells a number that isn't below 0. -/
set_option linter.unusedVariables false
set_option linter.unusedSimpArgs false
namespace Go.Proofs.Ytbhmippoeimliaa.M
open Go Go.RowKit Go.Proofs.YtbhmippoeimliaaW.PrintWords Go.Proofs.Ytbhmippoeimliaa.P
theorem mark_links_l (n : Nat) (hn : n ≤ 1048576) : ∀ d i (x : List Lnk) (a : Nat), i + d = n → x.length = n → a ≤ 1 + 3 * i → ∃ (b : Nat) (y : List Lnk), Ev (fun k => laws_markLinkS.l0 k x (a : Int) (i : Int)) ((b : Int), y) := by
  intro d
  induction d with
  | zero =>
    intro i x a hi hx ha
    refine ⟨a, x, Ev.step (fun k => by rw [laws_markLinkS.l0]) ?_⟩
    exact ev_neg (by omega) (ev_ret rfl)
  | succ d ih =>
    intro i x a hi hx ha
    obtain ⟨b, y, hE⟩ := ih (i + 1) (((x.set i (⟨(a : Int), (x.getD i zL).f1, (x.getD i zL).f2⟩ : Lnk)).set i (⟨((x.set i (⟨(a : Int), (x.getD i zL).f1, (x.getD i zL).f2⟩ : Lnk)).getD i zL).f0, ((a + 1 : Nat) : Int), ((x.set i (⟨(a : Int), (x.getD i zL).f1, (x.getD i zL).f2⟩ : Lnk)).getD i zL).f2⟩ : Lnk)).set i
      (⟨(((x.set i (⟨(a : Int), (x.getD i zL).f1, (x.getD i zL).f2⟩ : Lnk)).set i (⟨((x.set i (⟨(a : Int), (x.getD i zL).f1, (x.getD i zL).f2⟩ : Lnk)).getD i zL).f0, ((a + 1 : Nat) : Int), ((x.set i (⟨(a : Int), (x.getD i zL).f1, (x.getD i zL).f2⟩ : Lnk)).getD i zL).f2⟩ : Lnk)).getD i zL).f0, (((x.set i (⟨(a : Int), (x.getD i zL).f1, (x.getD i zL).f2⟩ : Lnk)).set i (⟨((x.set i (⟨(a : Int), (x.getD i zL).f1, (x.getD i zL).f2⟩ : Lnk)).getD i zL).f0, ((a + 1 : Nat) : Int), ((x.set i (⟨(a : Int), (x.getD i zL).f1, (x.getD i zL).f2⟩ : Lnk)).getD i zL).f2⟩ : Lnk)).getD i zL).f1, ((Int.tmod ((a + 2 : Nat) : Int) 3) == 0)⟩ : Lnk)) (a + 3) (by omega) (by simpa using hx) (by omega)
    refine ⟨b, y, Ev.step (fun k => by rw [laws_markLinkS.l0]) ?_⟩
    rw [w64s (i := i) (by omega), w64s (i := a) (by omega), w64s (i := a + 1) (by omega), w64s (i := a + 1 + 1) (by omega)]
    simp only [rdLnk, Int.toNat_natCast]
    refine ev_pos (by omega) ?_
    refine ev_pos (by omega) ?_
    refine ev_bindc rfl ?_
    refine ev_bindc rfl ?_
    exact hE
theorem mark_links (x : List Lnk) (hn : x.length ≤ 1048576) : ∃ (b : Nat) (y : List Lnk), Ev (fun k => laws_markLinkS.f k x 1) ((b : Int), y) := by
  unfold laws_markLinkS.f
  exact mark_links_l x.length hn x.length 0 x 1 (by omega) rfl (by omega)
end Go.Proofs.Ytbhmippoeimliaa.M

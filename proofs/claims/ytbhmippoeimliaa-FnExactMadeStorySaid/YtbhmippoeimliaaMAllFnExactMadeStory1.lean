/- What the proof of this law needs besides: texts of ours, one behind the other. -/
import Derived.Test.YtbhmippoeimliaaWWords
import Derived.Test.YtbhmippoeimliaaWMore
import Derived.Deep.Slices
import Derived.Deep.Strs
import Derived.ChangeSame
import Derived.ProofKit
import Derived.Test.YtbhmippoeimliaaMBase
import Derived.Test.YtbhmippoeimliaaPx10
import Derived.Test.YtbhmippoeimliaaPx9
import Derived.Test.YtbhmippoeimliaaPx13
import Derived.Test.YtbhmippoeimliaaPx12
import Derived.Test.YtbhmippoeimliaaPx0
import Derived.Test.YtbhmippoeimliaaPx14
import Derived.Test.YtbhmippoeimliaaPx6
import Derived.Test.YtbhmippoeimliaaPx5
import Derived.Test.YtbhmippoeimliaaPx7
import Derived.Test.YtbhmippoeimliaaPx15
import Derived.Test.YtbhmippoeimliaaPx11
import Derived.Test.YtbhmippoeimliaaPx8
import Derived.Test.YtbhmippoeimliaaPx2
import Derived.Test.YtbhmippoeimliaaPx3
import Derived.Test.YtbhmippoeimliaaPx4
import Derived.Test.YtbhmippoeimliaaPx16
/- What comes in, opened by its type's shape: a slice of whatever can be opened reads as a list of what its elements read as. -/
set_option linter.unusedVariables false
set_option linter.unusedSimpArgs false
namespace Go.Proofs.Ytbhmippoeimliaa.Open
open Go Go.RowKit Go.Proofs.YtbhmippoeimliaaW.PrintWords Go.Deep Go.ChangeShapes Go.WideShapes

/-- Whatever reads at this type is what the kind tells. -/
def Opens (P : Program) (w : World) (e : TypeId) {α : Type} (d : Kd α) (wf : α → Prop) : Prop :=
  ∀ (H : Type) (enc : TypeId × Value → H) (n : Nat) (cs : List Value) (x : DataW H × List MemPlace), DataW.trod enc P w 0 (fun _ => true) true n e cs = some x → ∃ a, d.K w a cs ∧ wf a
section
variable {P : Program} {w : World} {t e : TypeId}
theorem opens_int {k : IntKind} (ht : P.underlying t = some (.int k)) : Opens P w t (Kd.int k) (fun a => (Lit.int k a).wf = true) := fun H enc n cs x h => by
  obtain ⟨m, rfl, _, hw⟩ := DataW.trod_int ht h
  exact ⟨m, rfl, hw⟩
theorem opens_bool (ht : P.underlying t = some .bool) : Opens P w t Kd.bool (fun _ => True) := fun H enc n cs x h => by
  obtain ⟨m, rfl, _⟩ := DataW.trod_bool ht h
  exact ⟨m, rfl, trivial⟩
theorem list_of {α : Type} (n : Nat) (Q : Nat → α → Prop) (h : ∀ i, i < n → ∃ a, Q i a) : ∃ l : List α, l.length = n ∧ ∀ i a, l[i]? = some a → Q i a := by
  induction n with
  | zero => exact ⟨[], rfl, fun i a h => by simp at h⟩
  | succ n ih =>
    obtain ⟨l, hl, hq⟩ := ih fun i hi => h i (by omega)
    obtain ⟨a, ha⟩ := h n (by omega)
    refine ⟨l ++ [a], by simp [hl], fun i b hb => ?_⟩
    by_cases hi : i < n
    · rw [List.getElem?_append_left (by omega)] at hb
      exact hq i b hb
    · by_cases he : i = n
      · subst he
        rw [List.getElem?_append_right (by omega), hl, Nat.sub_self] at hb
        simp at hb
        exact hb ▸ ha
      · rw [List.getElem?_eq_none (by simp; omega)] at hb
        cases hb
theorem opens_slice {α : Type} {d : Kd α} {wf : α → Prop} (ht : P.underlying t = some (.slice e)) (hc : P.cellsOf e = d.sz) (he : Opens P w e d wf) :
    Opens P w t (Kd.slice e d) (fun l => l.length ≤ maxLen ∧ ∀ x ∈ l, wf x) := fun H enc n cs x h => by
  rcases open_slice ht h with ⟨rfl, _⟩ | ⟨a, len, cap, m, n', D, Pl, rfl, _, hl, hm, hmm, _, hx⟩
  · exact ⟨[], ⟨none, 0, rfl, Nat.le_refl _, rfl, Nat.zero_le _, fun h => absurd h (Nat.lt_irrefl _)⟩, Nat.zero_le _, fun x hx => by cases hx⟩
  · obtain ⟨l, hll, hq⟩ := list_of len (fun i p => (∃ c, c.length = d.sz ∧ d.K w p c ∧ ∀ j u, c[j]? = some u → w.cell? (a.add (i * d.sz + j)) = some u) ∧ wf p) fun i hi => by
      obtain ⟨cs', hcs, htr⟩ := hx i (by rw [hmm]; simp; omega)
      obtain ⟨p, hK, hw⟩ := he H enc n' cs' _ htr
      obtain ⟨_, hlen, hcell⟩ := World.cells?_some hcs
      refine ⟨p, ⟨cs', by omega, hK, fun j u hu => ?_⟩, hw⟩
      have hj : j < cs'.length := (List.getElem?_eq_some_iff.1 hu).1
      have := hcell j (by omega)
      rw [Go.Deep.add_add, hc] at this
      exact this.trans hu
    subst hll
    refine ⟨l, ⟨some a, cap, rfl, hl, rfl, by unfold maxLen at hm; omega, fun _ => ⟨a, rfl, fun j p hp => (hq j p hp).1⟩⟩, by omega, fun x hx => ?_⟩
    obtain ⟨j, hj, e⟩ := List.getElem_of_mem hx
    exact (hq j x (by rw [List.getElem?_eq_getElem hj, e])).2
/-- A slice that is a parameter. -/
theorem top_slice {α : Type} {d : Kd α} {wf : List α → Prop} {H : Type} {enc : TypeId × Value → H} {a : Option Addr} {len cap : Nat} {dd : DataW H} {pp : List MemPlace} (ho : Opens P w t (Kd.slice e d) wf)
    (h : DataW.Trod enc P w 0 (fun _ => true) true t (.slice a len cap) dd pp) : ∃ l : List α, len = l.length ∧ l.length ≤ cap ∧ d.C w a l.length l ∧ wf l := by
  obtain ⟨fuel, hf⟩ := h
  obtain ⟨l, ⟨A, c, hcs, hl, hC⟩, hw⟩ := ho H enc fuel _ _ hf
  have : Value.slice a len cap = Value.slice A l.length c := by simpa [Value.cells] using hcs
  injection this with h1 h2 h3
  subst h1
  subst h3
  exact ⟨l, h2, hl, hC, hw⟩
theorem opens_two {α β γ : Type} {d0 : Kd α} {d1 : Kd β} {d : Kd γ} {wf0 : α → Prop} {wf1 : β → Prop} {wf : γ → Prop} {f0 f1 : Field} (pair : α → β → γ) (ht : P.underlying t = some (.struct #[f0, f1])) (hc : P.cellsOf t = 2)
    (o0 : f0.offset = 0) (o1 : f1.offset = 1) (c0 : P.cellsOf f0.type = 1) (c1 : P.cellsOf f1.type = 1) (h0 : Opens P w f0.type d0 wf0) (h1 : Opens P w f1.type d1 wf1)
    (mk : ∀ a b x y, d0.K w a [x] → d1.K w b [y] → d.K w (pair a b) [x, y]) (hwf : ∀ a b, wf0 a → wf1 b → wf (pair a b)) : Opens P w t d wf := fun H enc n cs x h => by
  obtain ⟨y0, y1, m, _, hl, t0, t1⟩ := trod_struct2 ht h
  rw [o0, c0] at t0
  rw [o1, c1] at t1
  rw [hc] at hl
  match cs, hl with
  | [u, v], _ =>
    obtain ⟨a, ha, wa⟩ := h0 H enc m _ _ t0
    obtain ⟨b, hb, wb⟩ := h1 H enc m _ _ t1
    exact ⟨pair a b, mk a b u v ha hb, hwf a b wa wb⟩
theorem opens_three {α β γ δ : Type} {d0 : Kd α} {d1 : Kd β} {d2 : Kd γ} {d : Kd δ} {wf0 : α → Prop} {wf1 : β → Prop} {wf2 : γ → Prop} {wf : δ → Prop} {f0 f1 f2 : Field} (pair : α → β → γ → δ) (ht : P.underlying t = some (.struct #[f0, f1, f2])) (hc : P.cellsOf t = 3)
    (o0 : f0.offset = 0) (o1 : f1.offset = 1) (o2 : f2.offset = 2) (c0 : P.cellsOf f0.type = 1) (c1 : P.cellsOf f1.type = 1) (c2 : P.cellsOf f2.type = 1) (h0 : Opens P w f0.type d0 wf0) (h1 : Opens P w f1.type d1 wf1) (h2 : Opens P w f2.type d2 wf2)
    (mk : ∀ a b c x y z, d0.K w a [x] → d1.K w b [y] → d2.K w c [z] → d.K w (pair a b c) [x, y, z]) (hwf : ∀ a b c, wf0 a → wf1 b → wf2 c → wf (pair a b c)) : Opens P w t d wf := fun H enc n cs x h => by
  obtain ⟨y0, y1, y2, m, _, hl, t0, t1, t2⟩ := trod_struct3 ht h
  rw [o0, c0] at t0
  rw [o1, c1] at t1
  rw [o2, c2] at t2
  rw [hc] at hl
  match cs, hl with
  | [u, v, z], _ =>
    obtain ⟨a, ha, wa⟩ := h0 H enc m _ _ t0
    obtain ⟨b, hb, wb⟩ := h1 H enc m _ _ t1
    obtain ⟨c, hc, wc⟩ := h2 H enc m _ _ t2
    exact ⟨pair a b c, mk a b c u v z ha hb hc, hwf a b c wa wb wc⟩
end
end Go.Proofs.Ytbhmippoeimliaa.Open

/- Lists by their entries. -/
set_option linter.unusedVariables false
set_option linter.unusedSimpArgs false
namespace Go.Proofs.Ytbhmippoeimliaa.M
open Go Go.RowKit Go.Proofs.YtbhmippoeimliaaW.PrintWords
theorem getD_lt {α : Type} (l : List α) (d : α) (j : Nat) (h : j < l.length) : l.getD j d = l[j] := by
  rw [List.getD_eq_getElem?_getD, List.getElem?_eq_getElem h]
  rfl
theorem ext_getD {α : Type} (d : α) (x l : List α) (hl : x.length = l.length) (h : ∀ j, j < l.length → x.getD j d = l.getD j d) : x = l := by
  refine List.ext_getElem hl fun j h1 h2 => ?_
  have := h j h2
  rwa [getD_lt _ _ _ h1, getD_lt _ _ _ h2] at this
theorem set_getD {α : Type} (d : α) (x : List α) (i : Nat) (v : α) (hi : i < x.length) (j : Nat) : (x.set i v).getD j d = if j = i then v else x.getD j d := by
  by_cases e : j = i
  · subst e
    rw [if_pos rfl, List.getD_eq_getElem?_getD, List.getElem?_set_self hi]
    rfl
  · rw [if_neg e, List.getD_eq_getElem?_getD, List.getElem?_set_ne (Ne.symm e), ← List.getD_eq_getElem?_getD]
theorem getD_mem {α : Type} (l : List α) (d : α) (j : Nat) (h : j < l.length) : l.getD j d ∈ l := by
  rw [getD_lt l d j h]
  exact List.getElem_mem h
theorem getD_all {α : Type} (l : List α) (d : α) (P : α → Prop) (hd : P d) (h : ∀ x ∈ l, P x) (j : Nat) : P (l.getD j d) := by
  by_cases hj : j < l.length
  · exact h _ (getD_mem l d j hj)
  · rw [List.getD_eq_getElem?_getD, List.getElem?_eq_none (by omega)]
    exact hd
def castL (l : List Nat) : List Int := l.map fun w : Nat => (w : Int)
theorem castL_len (l : List Nat) : (castL l).length = l.length := by simp [castL]
theorem castL_getD (l : List Nat) (i : Nat) : (castL l).getD i 0 = ((l.getD i 0 : Nat) : Int) := by
  unfold castL
  by_cases h : i < l.length
  · rw [getD_lt _ _ _ (by simpa using h), getD_lt _ _ _ h, List.getElem_map]
  · rw [List.getD_eq_getElem?_getD, List.getElem?_eq_none (by simpa using h), List.getD_eq_getElem?_getD, List.getElem?_eq_none (by omega)]
    rfl
end Go.Proofs.Ytbhmippoeimliaa.M

/- Terms: a row of marks is a term just if it is what a tree writes; both TermOk tell so, and both ways of asking whether a term holds tell the tree's value. -/
set_option linter.unusedVariables false
set_option linter.unusedSimpArgs false
namespace Go.Proofs.Ytbhmippoeimliaa.M
open Go Go.RowKit Go.Proofs.YtbhmippoeimliaaW.PrintWords Go.Proofs.Ytbhmippoeimliaa.P
abbrev Mk := S81
abbrev zM : Mk := z81
theorem peopleOkT (n : Int) : impl_peopleOk.f n = some (decide (1 ≤ n ∧ n ≤ 4)) := by
  unfold impl_peopleOk.f
  by_cases h : n ≥ 1
  · rw [if_pos h]
    simp [h]
  · rw [if_neg h]
    simp
    intro h'
    omega
theorem rdM (s : List Mk) (i : Nat) : rd_T81 s (i : Int) = s.getD i zM := by simp [rd_T81]
theorem pwm4 {n : Nat} (h : n ≤ 4) : pw n ≤ 16 := Nat.pow_le_pow_right (n := 2) (by decide) h

/-! ### which rows are terms -/
/-- How many parts there are behind a mark. -/
def stepP (n : Int) (p : Nat) (m : Mk) : Option Nat :=
  if m.f0 = 0 then (if 0 ≤ m.f1 ∧ m.f1 < n then some (p + 1) else none)
  else if m.f0 = 1 then (if 0 ≤ m.f1 ∧ m.f1 ≤ n + 1 then some (p + 1) else none)
  else if m.f0 = 2 then (if m.f1 = 0 ∧ 1 ≤ p then some p else none)
  else if 3 ≤ m.f0 ∧ m.f0 ≤ 5 then (if m.f1 = 0 ∧ 2 ≤ p then some (p - 1) else none)
  else none
def foldP (n : Int) : Nat → List Mk → Option Nat
  | p, [] => some p
  | p, m :: l => (stepP n p m).bind fun q => foldP n q l
/-- A term for so many people. -/
def TermP (n : Int) (l : List Mk) : Prop := (1 ≤ n ∧ n ≤ 4) ∧ l.length ≤ 15 ∧ foldP n 0 l = some 1
instance (n : Int) (l : List Mk) : Decidable (TermP n l) := by unfold TermP; infer_instance
theorem stepP_le {n : Int} {p q : Nat} {m : Mk} (h : stepP n p m = some q) : q ≤ p + 1 := by
  unfold stepP at h
  repeat' split at h
  all_goals first | (cases h; omega) | cases h
theorem drop_getD (l : List Mk) (i : Nat) (h : i < l.length) : l.drop i = l.getD i zM :: l.drop (i + 1) := by
  rw [List.drop_eq_getElem_cons h, getD_lt l zM i h]
theorem foldP_drop (n : Int) (p : Nat) (l : List Mk) (i : Nat) (h : i < l.length) : foldP n p (l.drop i) = (stepP n p (l.getD i zM)).bind fun q => foldP n q (l.drop (i + 1)) := by
  rw [drop_getD l i h]
  rfl
theorem impl_termOk_l (n : Int) (s : List Mk) (hn : 1 ≤ n ∧ n ≤ 4) (hs : s.length ≤ 15) : ∀ d i p : Nat, i + d = s.length → p ≤ i →
    Tells (fun k => impl_TermOk.l0 k n (p : Int) s (s.length : Int) (i : Int)) (foldP n p (s.drop i) = some 1) := by
  intro d
  induction d with
  | zero =>
    intro i p hi hp
    refine Tells.step (fun k => by rw [impl_TermOk.l0]) ?_
    refine Tells.neg (by omega) ?_
    rw [List.drop_eq_nil_of_le (by omega)]
    refine Tells.of (Ev.now _) ?_
    rw [beq_iff_eq]
    simp only [foldP, Option.some.injEq]
    omega
  | succ d ih =>
    intro i p hi hp
    refine Tells.step (fun k => by rw [impl_TermOk.l0]) ?_
    rw [foldP_drop n p s i (by omega), rdM, w64s (i := i) (by omega), w64s (i := p) (by omega), w64 (x := n + 1) (by omega) (by omega)]
    refine Tells.pos (by omega) ?_
    refine Tells.pos (by omega) ?_
    refine Tells.pos (by omega) ?_
    generalize s.getD i zM = m
    have go : ∀ q, q ≤ i + 1 → stepP n p m = some q → Tells (fun k => impl_TermOk.l0 k n (q : Int) s (s.length : Int) ((i + 1 : Nat) : Int)) ((stepP n p m).bind (fun q => foldP n q (s.drop (i + 1))) = some 1) := fun q hq e => by
      rw [e]
      exact ih (i + 1) q (by omega) hq
    have no : stepP n p m = none → Tells (fun _ => some false) ((stepP n p m).bind (fun q => foldP n q (s.drop (i + 1))) = some 1) := fun e => by
      rw [e]
      exact Tells.no (by simp)
    have bin : 3 ≤ m.f0 → m.f0 ≤ 5 → Tells (fun k => impl_TermOk.j2 k n (p : Int) s (s.length : Int) (i : Int) true m.f0 m.f1) ((stepP n p m).bind (fun q => foldP n q (s.drop (i + 1))) = some 1) := fun h3 h5 => by
      refine Tells.step (fun k => by rw [impl_TermOk.j2]) ?_
      rw [w64s (by omega)]
      refine Tells.pos rfl ?_
      refine Tells.ite (fun h => ?_) (fun h => no (by unfold stepP; rw [if_neg (by omega), if_neg (by omega), if_neg (by omega), if_pos ⟨h3, h5⟩, if_neg (by omega)]))
      refine Tells.ite (fun h' => no (by unfold stepP; rw [if_neg (by omega), if_neg (by omega), if_neg (by omega), if_pos ⟨h3, h5⟩, if_neg (by omega)])) (fun h' => ?_)
      rw [w64 (x := (p : Int) - 1) (by omega) (by omega), show (p : Int) - 1 = ((p - 1 : Nat) : Int) by omega]
      exact go (p - 1) (by omega) (by unfold stepP; rw [if_neg (by omega), if_neg (by omega), if_neg (by omega), if_pos ⟨h3, h5⟩, if_pos ⟨h, by omega⟩])
    refine Tells.ite (fun h0 => ?_) (fun h0 => ?_)
    · refine Tells.ite (fun h => no (by unfold stepP; rw [if_pos h0, if_neg (by omega)])) (fun h => ?_)
      refine Tells.ite (fun h' => no (by unfold stepP; rw [if_pos h0, if_neg (by omega)])) (fun h' => ?_)
      exact go (p + 1) (by omega) (by unfold stepP; rw [if_pos h0, if_pos (by omega)])
    refine Tells.ite (fun h1 => ?_) (fun h1 => ?_)
    · refine Tells.ite (fun h => no (by unfold stepP; rw [if_neg h0, if_pos h1, if_neg (by omega)])) (fun h => ?_)
      refine Tells.ite (fun h' => no (by unfold stepP; rw [if_neg h0, if_pos h1, if_neg (by omega)])) (fun h' => ?_)
      exact go (p + 1) (by omega) (by unfold stepP; rw [if_neg h0, if_pos h1, if_pos (by omega)])
    refine Tells.ite (fun h2 => ?_) (fun h2 => ?_)
    · refine Tells.ite (fun h => ?_) (fun h => no (by unfold stepP; rw [if_neg h0, if_neg h1, if_pos h2, if_neg (by omega)]))
      refine Tells.ite (fun h' => no (by unfold stepP; rw [if_neg h0, if_neg h1, if_pos h2, if_neg (by omega)])) (fun h' => ?_)
      exact go p (by omega) (by unfold stepP; rw [if_neg h0, if_neg h1, if_pos h2, if_pos (by omega)])
    refine Tells.ite (fun h3 => ?_) (fun h3 => ?_)
    · rw [show (m.f0 == 3) = true by simp [h3]]
      exact bin (by omega) (by omega)
    refine Tells.ite (fun h4 => ?_) (fun h4 => ?_)
    · rw [show (m.f0 == 4) = true by simp [h4]]
      exact bin (by omega) (by omega)
    by_cases h5 : m.f0 = 5
    · rw [show (m.f0 == 5) = true by simp [h5]]
      exact bin (by omega) (by omega)
    · rw [show (m.f0 == 5) = false by simp [h5]]
      refine Tells.step (fun k => by rw [impl_TermOk.j2]) ?_
      refine Tells.neg (by decide) ?_
      exact no (by unfold stepP; rw [if_neg h0, if_neg h1, if_neg h2, if_neg (by omega)])
theorem impl_termOk (n : Int) (s : List Mk) : Tells (fun k => impl_TermOk.f k n s) (TermP n s) := by
  unfold impl_TermOk.f
  refine Tells.bindc (peopleOkT n) ?_
  have no : ¬ TermP n s → Tells (fun k => impl_TermOk.j0 k n s true) (TermP n s) := fun h => by
    refine Tells.step (fun k => by rw [impl_TermOk.j0]) ?_
    exact Tells.pos rfl (Tells.no h)
  refine Tells.ite (fun h => ?_) (fun h => no fun h' => h (decide_eq_true h'.1))
  have hn := of_decide_eq_true h
  refine Tells.ite (fun h1 => no fun h' => ?_) (fun h1 => ?_)
  · have : s = [] := List.eq_nil_of_length_eq_zero (by omega)
    subst this
    simp [TermP, foldP] at h'
  by_cases h2 : (s.length : Int) > 15
  · rw [decide_eq_true h2]
    exact no fun h' => by have := h'.2.1; omega
  · rw [decide_eq_false h2]
    refine Tells.step (fun k => by rw [impl_TermOk.j0]) ?_
    refine Tells.neg (by decide) ?_
    refine (impl_termOk_l n s hn (by omega) s.length 0 0 (by omega) (by omega)).iff ?_
    rw [List.drop_zero]
    exact ⟨fun h => ⟨hn, by omega, h⟩, fun h => h.2.2⟩
end Go.Proofs.Ytbhmippoeimliaa.M

/- Claims and stories: who makes them, and that they are some. -/
set_option linter.unusedVariables false
set_option linter.unusedSimpArgs false
namespace Go.Proofs.Ytbhmippoeimliaa.M
open Go Go.RowKit Go.Proofs.YtbhmippoeimliaaW.PrintWords Go.Proofs.Ytbhmippoeimliaa.P
abbrev Cl := S83
abbrev zC : Cl := z83
theorem rdC (s : List Cl) (i : Nat) : rd_T83 s (i : Int) = s.getD i zC := by simp [rd_T83]
/-! ### claims and stories -/
def ClaimP (n who : Int) (l : List Mk) : Prop := 0 ≤ who ∧ who < n ∧ TermP n l ∧ l.length ≤ 13
instance (n who : Int) (l : List Mk) : Decidable (ClaimP n who l) := by unfold ClaimP; infer_instance
theorem impl_claimOk (n who : Int) (l : List Mk) : Tells (fun k => impl_ClaimOk.f k n who l) (ClaimP n who l) := by
  unfold impl_ClaimOk.f
  refine Tells.bindc (peopleOkT n) ?_
  refine Tells.ite (fun h => ?_) (fun h => Tells.no fun h' => h (decide_eq_true h'.2.2.1.1))
  refine Tells.ite (fun h0 => ?_) (fun h0 => Tells.no fun h' => h0 h'.1)
  refine Tells.ite (fun h1 => ?_) (fun h1 => Tells.no fun h' => h1 h'.2.1)
  obtain ⟨b, hb, hi⟩ := impl_termOk n l
  refine Tells.bind hb ?_
  refine Tells.ite (fun h2 => Tells.dec ?_) (fun h2 => Tells.no fun h' => h2 (hi.2 h'.2.2.1))
  exact ⟨fun h => ⟨h0, h1, hi.1 h2, by omega⟩, fun h => by have := h.2.2.2; omega⟩
def StoryP (n : Int) (s : List Cl) : Prop := (∀ i, i < s.length → ClaimP n (s.getD i zC).f0 (s.getD i zC).f1) ∧ (1 ≤ n ∧ n ≤ 4) ∧ s.length ≤ 6
end Go.Proofs.Ytbhmippoeimliaa.M

/- Terms as trees. -/
set_option linter.unusedVariables false
set_option linter.unusedSimpArgs false
namespace Go.Proofs.Ytbhmippoeimliaa.M
open Go Go.RowKit Go.Proofs.YtbhmippoeimliaaW.PrintWords Go.Proofs.Ytbhmippoeimliaa.P

inductive Tm
  | leaf (m : Mk)
  | neg (t : Tm)
  | bin (c : Int) (a b : Tm)
def Tm.enc : Tm → List Mk
  | .leaf m => [m]
  | .neg t => t.enc ++ [⟨2, 0⟩]
  | .bin c a b => a.enc ++ b.enc ++ [⟨c, 0⟩]
def Tm.Ok (n : Int) : Tm → Prop
  | .leaf m => (m.f0 = 0 ∧ 0 ≤ m.f1 ∧ m.f1 < n) ∨ (m.f0 = 1 ∧ 0 ≤ m.f1 ∧ m.f1 ≤ n + 1)
  | .neg t => t.Ok n
  | .bin c a b => (c = 3 ∨ c = 4 ∨ c = 5) ∧ a.Ok n ∧ b.Ok n
def heads (w : Nat) : Nat := bitN w 0 + bitN w 1 + bitN w 2 + bitN w 3
def op2 (c : Int) (a b : Bool) : Bool := if c = 3 then a && b else if c = 4 then a || b else a == b
def Tm.val (w : Nat) : Tm → Bool
  | .leaf m => if m.f0 = 0 then bitN w m.f1.toNat == 1 else decide (m.f1 ≤ (heads w : Int))
  | .neg t => !t.val w
  | .bin c a b => op2 c (a.val w) (b.val w)
theorem Tm.enc_pos (t : Tm) : 0 < t.enc.length := by
  cases t <;> simp [Tm.enc] <;> try omega
/-- The parts, the last one first. -/
def flat : List Tm → List Mk
  | [] => []
  | t :: r => flat r ++ t.enc
theorem parse (n : Int) : ∀ (l : List Mk) (r : List Tm) (q : Nat), (∀ t ∈ r, t.Ok n) → foldP n r.length l = some q →
    ∃ r' : List Tm, r'.length = q ∧ (∀ t ∈ r', t.Ok n) ∧ flat r ++ l = flat r' := by
  intro l
  induction l with
  | nil =>
    intro r q hr h
    refine ⟨r, by simpa [foldP] using h, hr, by simp⟩
  | cons m l ih =>
    intro r q hr h
    simp only [foldP] at h
    obtain ⟨p, hp, h⟩ := Option.bind_eq_some_iff.1 h
    unfold stepP at hp
    have leaf : Tm.Ok n (.leaf m) → p = r.length + 1 → ∃ r' : List Tm, r'.length = q ∧ (∀ t ∈ r', t.Ok n) ∧ flat r ++ m :: l = flat r' := fun hk e => by
      subst e
      obtain ⟨r', h1, h2, h3⟩ := ih (.leaf m :: r) q (by
        intro t ht
        rcases List.mem_cons.1 ht with rfl | ht
        · exact hk
        · exact hr t ht) h
      refine ⟨r', h1, h2, ?_⟩
      rw [← h3]
      simp [flat, Tm.enc]
    split at hp
    · rename_i h0
      split at hp
      · rename_i h1
        exact leaf (.inl ⟨h0, h1.1, h1.2⟩) (Option.some.inj hp).symm
      · cases hp
    split at hp
    · rename_i h0
      split at hp
      · rename_i h1
        exact leaf (.inr ⟨h0, h1.1, h1.2⟩) (Option.some.inj hp).symm
      · cases hp
    split at hp
    · rename_i h0
      split at hp
      · rename_i h1
        obtain rfl := Option.some.inj hp
        match r, hr, h1.2, h with
        | t :: r, hr, _, h =>
          obtain ⟨r', e1, e2, e3⟩ := ih (.neg t :: r) q (by
            intro x hx
            rcases List.mem_cons.1 hx with rfl | hx
            · exact hr t (by simp)
            · exact hr x (by simp [hx])) h
          refine ⟨r', e1, e2, ?_⟩
          rw [← e3]
          obtain ⟨m0, m1⟩ := m
          obtain rfl : m0 = 2 := h0
          obtain rfl : m1 = 0 := h1.1
          simp [flat, Tm.enc]
      · cases hp
    split at hp
    · rename_i h0
      split at hp
      · rename_i h1
        obtain rfl := Option.some.inj hp
        match r, hr, h1.2, h with
        | b :: a :: r, hr, _, h =>
          obtain ⟨r', e1, e2, e3⟩ := ih (.bin m.f0 a b :: r) q (by
            intro x hx
            rcases List.mem_cons.1 hx with rfl | hx
            · exact ⟨by omega, hr a (by simp), hr b (by simp)⟩
            · exact hr x (by simp [hx])) h
          refine ⟨r', e1, e2, ?_⟩
          rw [← e3]
          obtain ⟨m0, m1⟩ := m
          obtain rfl : m1 = 0 := h1.1
          simp [flat, Tm.enc]
      · cases hp
    · cases hp
/-- A term is what a tree writes. -/
theorem TermP.tree {n : Int} {l : List Mk} (h : TermP n l) : ∃ t : Tm, t.Ok n ∧ l = t.enc := by
  obtain ⟨r, h1, h2, h3⟩ := parse n l [] 1 (by simp) h.2.2
  match r, h1, h2, h3 with
  | [t], _, h2, h3 => exact ⟨t, h2 t (by simp), by simpa [flat] using h3⟩
/-- What a tree writes adds one part. -/
theorem fold_enc (n : Int) (t : Tm) : ∀ (p : Nat) (l : List Mk), t.Ok n → foldP n p (t.enc ++ l) = foldP n (p + 1) l := by
  induction t with
  | leaf m =>
    intro p l h
    simp only [Tm.enc, List.singleton_append, foldP]
    rcases h with ⟨h0, h1⟩ | ⟨h0, h1⟩
    · unfold stepP
      rw [if_pos h0, if_pos h1]
      rfl
    · unfold stepP
      rw [if_neg (by omega), if_pos h0, if_pos h1]
      rfl
  | neg t ih =>
    intro p l h
    simp only [Tm.enc, List.append_assoc, List.singleton_append]
    rw [ih p _ h]
    simp [foldP, stepP]
  | bin c a b iha ihb =>
    intro p l h
    obtain ⟨hc, ha, hb⟩ := h
    simp only [Tm.enc, List.append_assoc, List.singleton_append]
    rw [iha p _ ha, ihb _ _ hb]
    simp only [foldP, stepP]
    rw [if_neg (by omega), if_neg (by omega), if_neg (by omega), if_pos (by omega), if_pos ⟨trivial, by omega⟩]
    rfl
theorem termP_enc (n : Int) (t : Tm) (hn : 1 ≤ n ∧ n ≤ 4) (ht : t.Ok n) (hl : t.enc.length ≤ 15) : TermP n t.enc := by
  refine ⟨hn, hl, ?_⟩
  have := fold_enc n t 0 [] ht
  rw [List.append_nil] at this
  rw [this]
  rfl

/-! ### how many tell the truth in a world -/
end Go.Proofs.Ytbhmippoeimliaa.M

/- A term is what a tree writes; both ways of asking whether it holds in a world tell the tree's value. -/
set_option linter.unusedVariables false
set_option linter.unusedSimpArgs false
namespace Go.Proofs.Ytbhmippoeimliaa.M
open Go Go.RowKit Go.Proofs.YtbhmippoeimliaaW.PrintWords Go.Proofs.Ytbhmippoeimliaa.P
theorem ones_heads (w : Nat) (hw : w < 16) : bits_OnesCount.f (IntKind.u64.wrap (w : Int)) = some ((heads w : Nat) : Int) := by
  have h : ∀ w : Fin 16, bits_OnesCount.f (IntKind.u64.wrap (w.val : Int)) = some ((heads w.val : Nat) : Int) := by decide +kernel
  exact h ⟨w, hw⟩

/-! ### the program's way: a stack -/
theorem rdB (s : List Bool) (i : Nat) : rdOf false s (i : Int) = s.getD i false := by simp [rdOf]
theorem getD_at {α : Type} (d : α) (pre : List α) (x : α) (post : List α) : (pre ++ x :: post).getD pre.length d = x := by
  rw [getD_lt _ _ _ (by simp)]
  simp
theorem getD_last {α : Type} (d : α) (pre : List α) (x : α) : (pre ++ [x]).getD pre.length d = x := getD_at d pre x []
theorem beq_one (a : Nat) : ((a : Int) == (1 : Int)) = (a == 1) := by
  rw [Bool.eq_iff_iff, beq_iff_eq, beq_iff_eq]
  omega
theorem impl_push (n : Int) (hn : n ≤ 4) (w : Nat) (hw : w < 16) (L : List Mk) (hL : L.length < 4611686018427387904) (r : Bool) (t : Tm) : ∀ (pre post : List Mk) (st : List Bool), t.Ok n → L = pre ++ t.enc ++ post → st.length ≤ pre.length → L.length ≤ 1000 →
    Ev (fun k => impl_holds.l0 k (w : Int) (st ++ [t.val w]) L (L.length : Int) ((pre.length + t.enc.length : Nat) : Int)) r → Ev (fun k => impl_holds.l0 k (w : Int) st L (L.length : Int) (pre.length : Int)) r := by
  induction t with
  | leaf m =>
    intro pre post st ht hl hs h1000 h
    refine Ev.step (fun k => by rw [impl_holds.l0]) ?_
    have hlen : L.length = pre.length + 1 + post.length := by rw [hl]; simp [Tm.enc]; omega
    have hget : L.getD pre.length zM = m := by
      rw [hl]
      simp only [Tm.enc, List.append_assoc, List.singleton_append]
      exact getD_at zM pre m post
    rw [rdM, hget, w64s (i := pre.length) (by omega)]
    refine ev_pos (by omega) ?_
    refine ev_pos (by omega) ?_
    refine ev_pos (by omega) ?_
    simp only [Tm.enc, List.length_singleton, Tm.val] at h
    rcases ht with ⟨h0, h1, h2⟩ | ⟨h0, h1, h2⟩
    · refine ev_pos h0 ?_
      refine ev_pos h1 ?_
      refine ev_pos (by omega) ?_
      rw [if_pos h0] at h
      rw [show m.f1 = ((m.f1.toNat : Nat) : Int) by omega, shr_and1 w m.f1.toNat (by omega) (by omega), beq_one]
      exact h
    · refine ev_neg (by omega) ?_
      refine ev_pos h0 ?_
      refine ev_bindc (ones_heads w hw) ?_
      refine ev_pos (by omega) ?_
      rw [if_neg (by omega)] at h
      exact h
  | neg t ih =>
    intro pre post st ht hl hs h1000 h
    refine ih pre (⟨2, 0⟩ :: post) st ht (by rw [hl]; simp [Tm.enc]) hs h1000 ?_
    refine Ev.step (fun k => by rw [impl_holds.l0]) ?_
    have hlen : L.length = pre.length + t.enc.length + 1 + post.length := by rw [hl]; simp [Tm.enc]; omega
    have hget : L.getD (pre.length + t.enc.length) zM = ⟨2, 0⟩ := by
      rw [hl]
      simp only [Tm.enc, List.append_assoc, List.singleton_append]
      rw [← List.append_assoc]
      have := getD_at zM (pre ++ t.enc) ⟨2, 0⟩ post
      rwa [List.length_append] at this
    have hstl : (st ++ [t.val w]).length = st.length + 1 := by simp
    rw [rdM, hget, w64s (i := pre.length + t.enc.length) (by omega), hstl, w64 (x := ((st.length + 1 : Nat) : Int) - 1) (by omega) (by omega), show ((st.length + 1 : Nat) : Int) - 1 = (st.length : Int) by omega, Int.toNat_natCast, rdB, getD_last]
    refine ev_pos (by omega) ?_
    refine ev_pos (by omega) ?_
    refine ev_pos (by omega) ?_
    refine ev_neg (by decide) ?_
    refine ev_neg (by decide) ?_
    refine ev_pos rfl ?_
    refine ev_pos (by omega) ?_
    refine ev_pos (by omega) ?_
    rw [show (st ++ [t.val w]).set st.length (!t.val w) = st ++ [!t.val w] by simp]
    simpa [Tm.enc, Tm.val, Nat.add_assoc] using h
  | bin c a b iha ihb =>
    intro pre post st ht hl hs h1000 h
    obtain ⟨hc, ha, hb⟩ := ht
    have hla := a.enc_pos
    refine iha pre (b.enc ++ ⟨c, 0⟩ :: post) st ha (by rw [hl]; simp [Tm.enc]) hs h1000 ?_
    rw [← List.length_append]
    refine ihb (pre ++ a.enc) (⟨c, 0⟩ :: post) (st ++ [a.val w]) hb (by rw [hl]; simp [Tm.enc]) (by simp; omega) h1000 ?_
    refine Ev.step (fun k => by rw [impl_holds.l0]) ?_
    have hlen : L.length = pre.length + a.enc.length + b.enc.length + 1 + post.length := by rw [hl]; simp [Tm.enc]; omega
    have hget : L.getD ((pre ++ a.enc).length + b.enc.length) zM = ⟨c, 0⟩ := by
      rw [hl]
      simp only [Tm.enc, List.append_assoc, List.singleton_append]
      rw [← List.append_assoc, ← List.append_assoc]
      have := getD_at zM ((pre ++ a.enc) ++ b.enc) ⟨c, 0⟩ post
      rwa [List.length_append (bs := b.enc)] at this
    have hpl : (pre ++ a.enc).length = pre.length + a.enc.length := by simp
    have hstl : (st ++ [a.val w] ++ [b.val w]).length = st.length + 2 := by simp
    have g1 : (st ++ [a.val w] ++ [b.val w]).getD (st.length + 1) false = b.val w := by
      have := getD_last false (st ++ [a.val w]) (b.val w)
      rwa [List.length_append] at this
    have g0 : (st ++ [a.val w] ++ [b.val w]).getD st.length false = a.val w := by
      rw [List.append_assoc]
      exact getD_at false st (a.val w) [b.val w]
    have ht : (st ++ [a.val w] ++ [b.val w]).take (st.length + 1) = st ++ [a.val w] := by
      rw [show st.length + 1 = (st ++ [a.val w]).length by simp, List.take_left]
    have hset : ∀ v : Bool, (st ++ [a.val w]).set st.length v = st ++ [v] := fun v => by simp
    rw [rdM, hget, w64s (i := (pre ++ a.enc).length + b.enc.length) (by omega), hstl, w64 (x := ((st.length + 2 : Nat) : Int) - 1) (by omega) (by omega), show ((st.length + 2 : Nat) : Int) - 1 = ((st.length + 1 : Nat) : Int) by omega,
      w64 (x := ((st.length + 1 : Nat) : Int) - 1) (by omega) (by omega), show ((st.length + 1 : Nat) : Int) - 1 = (st.length : Int) by omega, Int.toNat_natCast, Int.toNat_natCast, rdB, rdB, g1, g0, ht]
    refine ev_pos (by omega) ?_
    refine ev_pos (by omega) ?_
    refine ev_pos (by omega) ?_
    refine ev_neg (by dsimp only; omega) ?_
    refine ev_neg (by dsimp only; omega) ?_
    refine ev_neg (by dsimp only; omega) ?_
    refine ev_pos (by omega) ?_
    refine ev_pos (by omega) ?_
    refine ev_pos (by omega) ?_
    refine ev_pos (by omega) ?_
    refine ev_pos (by omega) ?_
    refine ev_bindc rfl ?_
    have hyl : (st ++ [a.val w]).length = st.length + 1 := by simp
    rw [hyl, hset, hset, hset, hset]
    have fin : ∀ v : Bool, v = op2 c (a.val w) (b.val w) → Ev (fun k => impl_holds.l0 k (w : Int) (st ++ [v]) L (L.length : Int) (((pre ++ a.enc).length + b.enc.length + 1 : Nat) : Int)) r := fun v e => by
      rw [e]
      have e2 : (pre ++ a.enc).length + b.enc.length + 1 = pre.length + (Tm.bin c a b).enc.length := by simp [Tm.enc]; omega
      rw [e2]
      exact h
    rcases hc with rfl | rfl | rfl
    · refine ev_pos rfl ?_
      by_cases hv : a.val w = true
      · refine ev_pos hv ?_
        refine ev_pos (by omega) ?_
        exact fin _ (by simp [op2, hv])
      · refine ev_neg hv ?_
        refine ev_pos (by omega) ?_
        exact fin _ (by simp [op2, hv])
    · refine ev_neg (by decide) ?_
      refine ev_pos rfl ?_
      by_cases hv : a.val w = true
      · refine ev_pos hv ?_
        refine ev_pos (by omega) ?_
        exact fin _ (by simp [op2, hv])
      · refine ev_neg hv ?_
        refine ev_pos (by omega) ?_
        exact fin _ (by simp [op2, hv])
    · refine ev_neg (by decide) ?_
      refine ev_neg (by decide) ?_
      refine ev_pos (by omega) ?_
      exact fin _ (by simp [op2])
theorem impl_holdsE (n : Int) (hn : n ≤ 4) (w : Nat) (hw : w < 16) (t : Tm) (ht : t.Ok n) (hl : t.enc.length ≤ 1000) : Ev (fun k => impl_holds.f k t.enc (w : Int)) (t.val w) := by
  unfold impl_holds.f
  refine impl_push n hn w hw t.enc (by omega) (t.val w) t [] [] [] ht (by simp) (by simp) hl ?_
  refine Ev.step (fun k => by rw [impl_holds.l0]) ?_
  refine ev_neg (by simp) ?_
  refine ev_pos (by simp) (ev_ret ?_)
  simp [rdOf]

/-! ### the reference's way: from the last mark -/
end Go.Proofs.Ytbhmippoeimliaa.M

/- Tables: the worlds for which something holds, as a number; the program's tableBy makes it, whatever function value it is handed. -/
set_option linter.unusedVariables false
set_option linter.unusedSimpArgs false
namespace Go.Proofs.Ytbhmippoeimliaa.M
open Go Go.RowKit Go.Proofs.YtbhmippoeimliaaW.PrintWords Go.Proofs.Ytbhmippoeimliaa.P

/-- The table of all worlds below n for which p holds. -/
def tabN (p : Nat → Bool) : Nat → Nat
  | 0 => 0
  | n + 1 => tabN p n + if p n then pw n else 0
theorem tabN_lt (p : Nat → Bool) (n : Nat) : tabN p n < pw n := by
  induction n with
  | zero => exact pw_pos 0
  | succ n ih =>
    have : pw (n + 1) = pw n + pw n := by unfold pw; omega
    simp only [tabN]
    split <;> omega
theorem or_pw (p : Nat → Bool) (j : Nat) (hj : j ≤ 16) : Go.bits .or .i64 (tabN p j : Int) (pw j : Int) = ((tabN p j + pw j : Nat) : Int) := by
  have h1 := tabN_lt p j
  have h2 := pw16 hj
  have h := (bits_nat .i64 63 (by decide) wraps_i64 (tabN p j) (pw j) (by omega) (by omega)).2
  rw [h]
  have e := Nat.two_pow_add_eq_or_of_lt (i := j) h1 1
  rw [Nat.mul_one] at e
  rw [Nat.or_comm]
  show ((2 ^ j ||| tabN p j : Nat) : Int) = _
  rw [← e, Nat.add_comm]
  rfl
theorem tab_yes (p : Nat → Bool) (j : Nat) (hj : j ≤ 16) (h : p j = true) : Value.int .i64 (Go.bits .or .i64 (tabN p j : Int) (pw j : Int)) = .int .i64 (tabN p (j + 1) : Nat) := by
  rw [or_pw p j hj]
  simp [tabN, h]
theorem tab_no (p : Nat → Bool) (j : Nat) (h : p j = false) : Value.int .i64 (tabN p j : Nat) = .int .i64 (tabN p (j + 1) : Nat) := by
  simp [tabN, h]
end Go.Proofs.Ytbhmippoeimliaa.M

/- Claims and stories: both ClaimOk, both StoryOk, and whether a claim may be made in a world. -/
set_option linter.unusedVariables false
set_option linter.unusedSimpArgs false
namespace Go.Proofs.Ytbhmippoeimliaa.M
open Go Go.RowKit Go.Proofs.YtbhmippoeimliaaW.PrintWords Go.Proofs.Ytbhmippoeimliaa.P

/-! ### whether a row of marks holds in a world -/
def runL (w : Nat) : List Bool → List Mk → List Bool
  | st, [] => st
  | st, m :: l => runL w (if m.f0 = 0 then (bitN w m.f1.toNat == 1) :: st else if m.f0 = 1 then decide (m.f1 ≤ (heads w : Int)) :: st else if m.f0 = 2 then (!st.headD false) :: st.tail else op2 m.f0 (st.tail.headD false) (st.headD false) :: st.tail.tail) l
theorem runL_enc (n : Int) (w : Nat) (t : Tm) : ∀ (st : List Bool) (l : List Mk), t.Ok n → runL w st (t.enc ++ l) = runL w (t.val w :: st) l := by
  induction t with
  | leaf m =>
    intro st l h
    simp only [Tm.enc, List.singleton_append, runL, Tm.val]
    by_cases h0 : m.f0 = 0
    · rw [if_pos h0, if_pos h0]
    · rw [if_neg h0, if_neg h0, if_pos (by rcases h with h | h <;> omega)]
  | neg t ih =>
    intro st l h
    simp only [Tm.enc, List.append_assoc, List.singleton_append]
    rw [ih st _ h]
    simp [runL, Tm.val]
  | bin c a b iha ihb =>
    intro st l h
    obtain ⟨hc, ha, hb⟩ := h
    simp only [Tm.enc, List.append_assoc, List.singleton_append]
    rw [iha st _ ha, ihb _ _ hb]
    simp only [runL, Tm.val]
    rw [if_neg (by omega), if_neg (by omega), if_neg (by omega)]
    rfl
/-- A row of marks holds in a world. -/
def holdB (l : List Mk) (w : Nat) : Bool := (runL w [] l).headD false
theorem holdB_enc (n : Int) (w : Nat) (t : Tm) (h : t.Ok n) : holdB t.enc w = t.val w := by
  unfold holdB
  have := runL_enc n w t [] [] h
  rw [List.append_nil] at this
  rw [this]
  rfl
theorem impl_holdsT {n : Int} {l : List Mk} (h : TermP n l) (w : Nat) (hw : w < 16) : Ev (fun k => impl_holds.f k l (w : Int)) (holdB l w) := by
  obtain ⟨t, ht, rfl⟩ := h.tree
  rw [holdB_enc n w t ht]
  exact impl_holdsE n h.1.2 w hw t ht (by have := h.2.1; omega)
/-- The person may say the row of marks in a world. -/
def mayB (who : Nat) (l : List Mk) (w : Nat) : Bool := (bitN w who == 1) == holdB l w
theorem impl_mayE {n : Int} {l : List Mk} (h : TermP n l) (who : Int) (h0 : 0 ≤ who) (h4 : who < 4) (w : Nat) (hw : w < 16) : Ev (fun k => impl_maySay.f k who l (w : Int)) (mayB who.toNat l w) := by
  unfold impl_maySay.f
  refine ev_bind (impl_holdsT h w hw) ?_
  refine ev_pos h0 (ev_ret ?_)
  rw [show who = ((who.toNat : Nat) : Int) by omega, shr_and1 w who.toNat (by omega) (by omega), beq_one]
  unfold mayB
  rw [Int.toNat_natCast, BEq.comm]
end Go.Proofs.Ytbhmippoeimliaa.M

/- The reference's TermOk tells whether a row is a term. -/
set_option linter.unusedVariables false
set_option linter.unusedSimpArgs false
namespace Go.Proofs.Ytbhmippoeimliaa.M
open Go Go.RowKit Go.Proofs.YtbhmippoeimliaaW.PrintWords Go.Proofs.Ytbhmippoeimliaa.P
theorem l1InT (a b c : Int) : spec_l1In.f a b c = some (decide (b ≤ a ∧ a ≤ c)) := by
  unfold spec_l1In.f
  by_cases h : a ≥ b
  · rw [if_pos h]
    simp [h]
  · rw [if_neg h]
    simp
    intro h'
    omega
/-- No mark is beyond the machine's whole numbers. -/
def M64 (s : List Mk) : Prop := ∀ i : Nat, (s.getD i zM).f1 ≤ 9223372036854775807
theorem spec_termOk_l (n : Int) (hb : n ≤ 9223372036854775807) (s : List Mk) (h64 : M64 s) (hs : s.length < 4611686018427387904) : ∀ d i p : Nat, i + d = s.length → p ≤ i →
    Tells (fun k => spec_TermOk.l0 k n s (p : Int) (i : Int)) (foldP n p (s.drop i) = some 1 ∧ (1 ≤ n ∧ n ≤ 4) ∧ s.length ≤ 15) := by
  intro d
  induction d with
  | zero =>
    intro i p hi hp
    refine Tells.step (fun k => by rw [spec_TermOk.l0]) ?_
    refine Tells.neg (by omega) ?_
    rw [List.drop_eq_nil_of_le (by omega)]
    refine Tells.bindc (l1InT n 1 4) ?_
    simp only [foldP, Option.some.injEq]
    refine Tells.ite (fun h => ?_) (fun h => Tells.no fun h' => h (decide_eq_true h'.2.1))
    have hn := of_decide_eq_true h
    refine Tells.ite (fun h1 => Tells.dec ?_) (fun h1 => Tells.no fun h' => h1 (by omega))
    exact ⟨fun h => ⟨by omega, hn, by omega⟩, fun h => by omega⟩
  | succ d ih =>
    intro i p hi hp
    refine Tells.step (fun k => by rw [spec_TermOk.l0]) ?_
    rw [foldP_drop n p s i (by omega), rdM]
    refine Tells.pos (by omega) ?_
    refine Tells.pos (by omega) ?_
    have hm64 := h64 i
    generalize hm : s.getD i zM = m at hm64
    have go : ∀ q, q ≤ i + 1 → stepP n p m = some q → Tells (fun k => spec_TermOk.l0 k n s (q : Int) ((i + 1 : Nat) : Int)) ((stepP n p m).bind (fun q => foldP n q (s.drop (i + 1))) = some 1 ∧ (1 ≤ n ∧ n ≤ 4) ∧ s.length ≤ 15) := fun q hq e => by
      rw [e]
      exact ih (i + 1) q (by omega) hq
    have no : stepP n p m = none → Tells (fun _ => some false) ((stepP n p m).bind (fun q => foldP n q (s.drop (i + 1))) = some 1 ∧ (1 ≤ n ∧ n ≤ 4) ∧ s.length ≤ 15) := fun e => by
      rw [e]
      exact Tells.no (by simp)
    have j3 : m.f0 ≠ 0 → m.f0 ≠ 1 → ¬ (m.f0 = 2 ∧ m.f1 = 0 ∧ 1 ≤ p) → Tells (fun k => spec_TermOk.j3 k n s (p : Int) (i : Int) false) ((stepP n p m).bind (fun q => foldP n q (s.drop (i + 1))) = some 1 ∧ (1 ≤ n ∧ n ≤ 4) ∧ s.length ≤ 15) := fun h0 h1 h2 => by
      refine Tells.step (fun k => by rw [spec_TermOk.j3]) ?_
      rw [rdM, hm, w64s (by omega)]
      refine Tells.neg (by decide) ?_
      refine Tells.pos (by omega) ?_
      refine Tells.pos (by omega) ?_
      refine Tells.bindc (l1InT m.f0 3 5) ?_
      have bad : ¬ (3 ≤ m.f0 ∧ m.f0 ≤ 5 ∧ m.f1 = 0 ∧ 2 ≤ p) → stepP n p m = none := fun hb => by
        unfold stepP
        rw [if_neg h0, if_neg h1]
        by_cases h2' : m.f0 = 2
        · rw [if_pos h2', if_neg (fun h => h2 ⟨h2', h.1, h.2⟩)]
        · rw [if_neg h2']
          by_cases h3 : 3 ≤ m.f0 ∧ m.f0 ≤ 5
          · rw [if_pos h3, if_neg (fun h => hb ⟨h3.1, h3.2, h.1, h.2⟩)]
          · rw [if_neg h3]
      refine Tells.ite (fun h3 => ?_) (fun h3 => no (bad fun h => h3 (decide_eq_true ⟨h.1, h.2.1⟩)))
      have h3 := of_decide_eq_true h3
      refine Tells.ite (fun h4 => ?_) (fun h4 => no (bad fun h => h4 h.2.2.1))
      refine Tells.ite (fun h5 => ?_) (fun h5 => no (bad fun h => h5 (by omega)))
      rw [w64 (x := (p : Int) - 1) (by omega) (by omega), show (p : Int) - 1 = ((p - 1 : Nat) : Int) by omega]
      exact go (p - 1) (by omega) (by unfold stepP; rw [if_neg h0, if_neg h1, if_neg (by omega), if_pos h3, if_pos ⟨h4, by omega⟩])
    have j2 : m.f0 ≠ 0 → ¬ (m.f0 = 1 ∧ 0 ≤ m.f1 ∧ m.f1 ≤ n + 1) → Tells (fun k => spec_TermOk.j2 k n s (p : Int) (i : Int) false) ((stepP n p m).bind (fun q => foldP n q (s.drop (i + 1))) = some 1 ∧ (1 ≤ n ∧ n ≤ 4) ∧ s.length ≤ 15) := fun h0 h1 => by
      refine Tells.step (fun k => by rw [spec_TermOk.j2]) ?_
      rw [rdM, hm]
      refine Tells.neg (by decide) ?_
      refine Tells.pos (by omega) ?_
      refine Tells.pos (by omega) ?_
      by_cases h11 : m.f0 = 1
      · have e : stepP n p m = none := by
          unfold stepP
          rw [if_neg h0, if_pos h11, if_neg (fun h => h1 ⟨h11, h⟩)]
        refine Tells.neg (by simp [h11]) ?_
        refine Tells.step (fun k => by rw [spec_TermOk.j3]) ?_
        rw [rdM, hm]
        refine Tells.neg (by decide) ?_
        refine Tells.pos (by omega) ?_
        refine Tells.pos (by omega) ?_
        refine Tells.bindc (l1InT m.f0 3 5) ?_
        refine Tells.neg (fun h => by have := of_decide_eq_true h; omega) ?_
        exact no e
      refine Tells.ite (fun h2 => ?_) (fun h2 => j3 h0 h11 fun h => h2 (by simp [h.1, h.2.1]))
      have h2 : m.f0 = 2 ∧ m.f1 = 0 := by simpa using h2
      by_cases hp1 : (p : Int) ≥ 1
      · rw [decide_eq_true hp1]
        refine Tells.step (fun k => by rw [spec_TermOk.j3]) ?_
        rw [w64s (by omega)]
        refine Tells.pos rfl ?_
        exact go p (by omega) (by unfold stepP; rw [if_neg h0, if_neg h11, if_pos h2.1, if_pos ⟨h2.2, by omega⟩])
      · rw [decide_eq_false hp1]
        exact j3 h0 h11 fun h => hp1 (by omega)
    have j2t : m.f0 = 1 → 0 ≤ m.f1 → m.f1 ≤ n + 1 → Tells (fun k => spec_TermOk.j2 k n s (p : Int) (i : Int) true) ((stepP n p m).bind (fun q => foldP n q (s.drop (i + 1))) = some 1 ∧ (1 ≤ n ∧ n ≤ 4) ∧ s.length ≤ 15) := fun h0 h1 h2 => by
      refine Tells.step (fun k => by rw [spec_TermOk.j2]) ?_
      rw [w64s (by omega), w64s (by omega)]
      refine Tells.pos rfl ?_
      exact go (p + 1) (by omega) (by unfold stepP; rw [if_neg (by omega), if_pos h0, if_pos ⟨h1, h2⟩])
    have j1 : ¬ (m.f0 = 0 ∧ 0 ≤ m.f1 ∧ m.f1 < n) → Tells (fun k => spec_TermOk.j1 k n s (p : Int) (i : Int) false) ((stepP n p m).bind (fun q => foldP n q (s.drop (i + 1))) = some 1 ∧ (1 ≤ n ∧ n ≤ 4) ∧ s.length ≤ 15) := fun h0 => by
      refine Tells.step (fun k => by rw [spec_TermOk.j1]) ?_
      rw [rdM, hm]
      refine Tells.neg (by decide) ?_
      refine Tells.pos (by omega) ?_
      refine Tells.pos (by omega) ?_
      by_cases h00 : m.f0 = 0
      · have e : stepP n p m = none := by
          unfold stepP
          rw [if_pos h00, if_neg (fun h => h0 ⟨h00, h⟩)]
        refine Tells.neg (by omega) ?_
        refine Tells.step (fun k => by rw [spec_TermOk.j2]) ?_
        rw [rdM, hm]
        refine Tells.neg (by decide) ?_
        refine Tells.pos (by omega) ?_
        refine Tells.pos (by omega) ?_
        refine Tells.neg (by simp [h00]) ?_
        refine Tells.step (fun k => by rw [spec_TermOk.j3]) ?_
        rw [rdM, hm]
        refine Tells.neg (by decide) ?_
        refine Tells.pos (by omega) ?_
        refine Tells.pos (by omega) ?_
        refine Tells.bindc (l1InT m.f0 3 5) ?_
        refine Tells.neg (fun h => by have := of_decide_eq_true h; omega) ?_
        exact no e
      refine Tells.ite (fun h1 => ?_) (fun h1 => j2 h00 fun h => h1 h.1)
      refine Tells.ite (fun h2 => ?_) (fun h2 => j2 h00 fun h => h2 h.2.1)
      refine Tells.ite (fun h3 => j2t h1 h2 (by omega)) (fun h3 => ?_)
      by_cases h4 : wrap64 (m.f1 - 1) = n
      · rw [show (wrap64 (m.f1 - 1) == n) = true by simp [h4]]
        exact j2t h1 h2 (by rw [w64 (by omega) (by omega)] at h4; omega)
      · rw [show (wrap64 (m.f1 - 1) == n) = false by simp [h4]]
        exact j2 h00 fun h => h4 (by rw [w64 (by omega) (by omega)]; omega)
    refine Tells.ite (fun h0 => ?_) (fun h0 => j1 fun h => h0 h.1)
    refine Tells.ite (fun h1 => ?_) (fun h1 => j1 fun h => h1 h.2.1)
    by_cases h2 : m.f1 < n
    · rw [decide_eq_true h2]
      refine Tells.step (fun k => by rw [spec_TermOk.j1]) ?_
      rw [w64s (by omega), w64s (by omega)]
      refine Tells.pos rfl ?_
      exact go (p + 1) (by omega) (by unfold stepP; rw [if_pos h0, if_pos ⟨h1, h2⟩])
    · rw [decide_eq_false h2]
      exact j1 fun h => h2 h.2.2
theorem spec_termOk (n : Int) (hb : n ≤ 9223372036854775807) (s : List Mk) (h64 : M64 s) (hs : s.length < 4611686018427387904) : Tells (fun k => spec_TermOk.f k n s) (TermP n s) := by
  unfold spec_TermOk.f
  refine (spec_termOk_l n hb s h64 hs s.length 0 0 (by omega) (by omega)).iff ?_
  rw [List.drop_zero]
  exact ⟨fun h => ⟨h.2.1, h.2.2, h.1⟩, fun h => ⟨h.2.2, h.1, h.2.1⟩⟩
end Go.Proofs.Ytbhmippoeimliaa.M

/- The reference's ClaimOk. -/
set_option linter.unusedVariables false
set_option linter.unusedSimpArgs false
namespace Go.Proofs.Ytbhmippoeimliaa.M
open Go Go.RowKit Go.Proofs.YtbhmippoeimliaaW.PrintWords Go.Proofs.Ytbhmippoeimliaa.P
theorem spec_claimOk (n : Int) (hn : n ≤ 9223372036854775807) (who : Int) (l : List Mk) (h64 : M64 l) (hl : l.length < 4611686018427387904) : Tells (fun k => spec_ClaimOk.f k n who l) (ClaimP n who l) := by
  unfold spec_ClaimOk.f
  refine Tells.ite (fun h0 => ?_) (fun h0 => Tells.no fun h' => h0 h'.1)
  refine Tells.ite (fun h1 => ?_) (fun h1 => Tells.no fun h' => h1 h'.2.1)
  obtain ⟨b, hb, hi⟩ := spec_termOk n hn l h64 hl
  refine Tells.bind hb ?_
  refine Tells.ite (fun h2 => Tells.dec ?_) (fun h2 => Tells.no fun h' => h2 (hi.2 h'.2.2.1))
  exact ⟨fun h => ⟨h0, h1, hi.1 h2, by omega⟩, fun h => by have := h.2.2.2; omega⟩
/-- Nothing in the story is beyond the machine's numbers. -/
def S64 (s : List Cl) : Prop := s.length < 4611686018427387904 ∧ ∀ i, M64 (s.getD i zC).f1 ∧ (s.getD i zC).f1.length < 4611686018427387904
end Go.Proofs.Ytbhmippoeimliaa.M

/- The reference's way, from the last mark, tells the tree's value. -/
set_option linter.unusedVariables false
set_option linter.unusedSimpArgs false
namespace Go.Proofs.Ytbhmippoeimliaa.M
open Go Go.RowKit Go.Proofs.YtbhmippoeimliaaW.PrintWords Go.Proofs.Ytbhmippoeimliaa.P
theorem spec_headsE (w : Nat) (hw : w < 16) : Ev (fun k => spec_l1Heads.f k (w : Int)) ((heads w : Nat) : Int) := by
  have h : ∀ w : Fin 16, spec_l1Heads.f 10 (w.val : Int) = some ((heads w.val : Nat) : Int) := by decide +kernel
  exact Ev.of (fun k => spec_l1Heads.mono (w : Int) k) (h ⟨w, hw⟩)
theorem starts_l (n : Int) (L : List Mk) (hL : L.length ≤ 1000) (r : Int) (t : Tm) : ∀ (pre post : List Mk) (d : Nat), t.Ok n → L = pre ++ t.enc ++ post → d ≤ 1000000 - t.enc.length →
    Ev (fun k => spec_l2Starts.l0 k L (d : Int) ((pre.length : Int) - 1)) r → Ev (fun k => spec_l2Starts.l0 k L ((d + 1 : Nat) : Int) (((pre.length + t.enc.length : Nat) : Int) - 1)) r := by
  induction t with
  | leaf m =>
    intro pre post d ht hl hd h
    refine Ev.step (fun k => by rw [spec_l2Starts.l0]) ?_
    have hlen : L.length = pre.length + 1 + post.length := by rw [hl]; simp [Tm.enc]; omega
    have hget : L.getD pre.length zM = m := by
      rw [hl]
      simp only [Tm.enc, List.append_assoc, List.singleton_append]
      exact getD_at zM pre m post
    have e : ((pre.length + (Tm.leaf m).enc.length : Nat) : Int) - 1 = (pre.length : Int) := by simp [Tm.enc]
    simp only [Tm.enc, List.length_singleton] at hd
    rw [e, rdM, hget, w64 (x := ((d + 1 : Nat) : Int) - 1) (by omega) (by omega), w64 (x := (pre.length : Int) - 1) (by omega) (by omega), show ((d + 1 : Nat) : Int) - 1 = (d : Int) by omega]
    refine ev_pos (by omega) ?_
    refine ev_pos (by omega) ?_
    refine ev_pos (by omega) ?_
    refine ev_pos (by rcases ht with h | h <;> omega) ?_
    exact h
  | neg t ih =>
    intro pre post d ht hl hd h
    refine Ev.step (fun k => by rw [spec_l2Starts.l0]) ?_
    have hlen : L.length = pre.length + t.enc.length + 1 + post.length := by rw [hl]; simp [Tm.enc]; omega
    have hget : L.getD (pre.length + t.enc.length) zM = ⟨2, 0⟩ := by
      rw [hl]
      simp only [Tm.enc, List.append_assoc, List.singleton_append]
      rw [← List.append_assoc]
      have := getD_at zM (pre ++ t.enc) ⟨2, 0⟩ post
      rwa [List.length_append] at this
    have e : ((pre.length + (Tm.neg t).enc.length : Nat) : Int) - 1 = ((pre.length + t.enc.length : Nat) : Int) := by simp [Tm.enc]; omega
    simp only [Tm.enc, List.length_append, List.length_singleton] at hd
    rw [e, rdM, hget, w64 (x := ((pre.length + t.enc.length : Nat) : Int) - 1) (by omega) (by omega)]
    refine ev_pos (by omega) ?_
    refine ev_pos (by omega) ?_
    refine ev_pos (by omega) ?_
    refine ev_neg (by decide) ?_
    refine ev_neg (by decide) ?_
    exact ih pre (⟨2, 0⟩ :: post) d ht (by rw [hl]; simp [Tm.enc]) (by omega) h
  | bin c a b iha ihb =>
    intro pre post d ht hl hd h
    obtain ⟨hc, ha, hb⟩ := ht
    refine Ev.step (fun k => by rw [spec_l2Starts.l0]) ?_
    have hlen : L.length = pre.length + a.enc.length + b.enc.length + 1 + post.length := by rw [hl]; simp [Tm.enc]; omega
    have hget : L.getD (pre.length + a.enc.length + b.enc.length) zM = ⟨c, 0⟩ := by
      rw [hl]
      simp only [Tm.enc, List.append_assoc, List.singleton_append]
      rw [← List.append_assoc, ← List.append_assoc]
      have := getD_at zM ((pre ++ a.enc) ++ b.enc) ⟨c, 0⟩ post
      rwa [List.length_append, List.length_append] at this
    have e : ((pre.length + (Tm.bin c a b).enc.length : Nat) : Int) - 1 = ((pre.length + a.enc.length + b.enc.length : Nat) : Int) := by simp [Tm.enc]; omega
    simp only [Tm.enc, List.length_append, List.length_singleton] at hd
    rw [e, rdM, hget, w64 (x := ((pre.length + a.enc.length + b.enc.length : Nat) : Int) - 1) (by omega) (by omega), w64s (by omega)]
    refine ev_pos (by omega) ?_
    refine ev_pos (by omega) ?_
    refine ev_pos (by omega) ?_
    refine ev_neg (by dsimp only; omega) ?_
    refine ev_pos (by dsimp only; omega) ?_
    have h2 := iha pre (b.enc ++ ⟨c, 0⟩ :: post) d ha (by rw [hl]; simp [Tm.enc]) (by omega) h
    rw [← List.length_append] at h2 ⊢
    exact ihb (pre ++ a.enc) (⟨c, 0⟩ :: post) (d + 1) hb (by rw [hl]; simp [Tm.enc]) (by omega) h2
theorem spec_holdsE (n : Int) (hn : n ≤ 4) (w : Nat) (hw : w < 16) (t : Tm) : t.Ok n → t.enc.length ≤ 1000 → Ev (fun k => spec_l3Holds.f k t.enc (w : Int)) (t.val w) := by
  induction t with
  | leaf m =>
    intro ht hl
    refine Ev.step (fun k => by rw [spec_l3Holds.f]) ?_
    have e : wrap64 (((Tm.leaf m).enc.length : Int) - 1) = ((0 : Nat) : Int) := by simp [Tm.enc, wrap64]
    have g : (Tm.leaf m).enc.getD 0 zM = m := rfl
    rw [e, rdM, g]
    have hlen : (Tm.leaf m).enc.length = 1 := rfl
    refine ev_pos (by omega) ?_
    refine ev_pos (by omega) ?_
    simp only [Tm.val]
    rcases ht with ⟨h0, h1, h2⟩ | ⟨h0, h1, h2⟩
    · refine ev_pos h0 ?_
      refine ev_pos h1 (ev_ret ?_)
      rw [if_pos h0, show m.f1 = ((m.f1.toNat : Nat) : Int) by omega, shr_tmod2 w m.f1.toNat (by omega), beq_one, Int.toNat_natCast]
    · refine ev_neg (by omega) ?_
      refine ev_pos h0 ?_
      refine ev_bind (spec_headsE w hw) (ev_ret ?_)
      rw [if_neg (by omega)]
  | neg t ih =>
    intro ht hl
    refine Ev.step (fun k => by rw [spec_l3Holds.f]) ?_
    have hlen : (Tm.neg t).enc.length = t.enc.length + 1 := by simp [Tm.enc]
    have g : (Tm.neg t).enc.getD t.enc.length zM = ⟨2, 0⟩ := getD_last zM t.enc ⟨2, 0⟩
    rw [hlen, w64 (x := ((t.enc.length + 1 : Nat) : Int) - 1) (by omega) (by omega), show ((t.enc.length + 1 : Nat) : Int) - 1 = (t.enc.length : Int) by omega, rdM, g, Int.toNat_natCast]
    have tk : (Tm.neg t).enc.take t.enc.length = t.enc := by simp [Tm.enc]
    rw [tk]
    refine ev_pos (by omega) ?_
    refine ev_pos (by omega) ?_
    refine ev_neg (by decide) ?_
    refine ev_neg (by decide) ?_
    refine ev_pos rfl ?_
    refine ev_pos (by omega) ?_
    exact ev_bind (ih ht (by omega)) (ev_ret rfl)
  | bin c a b iha ihb =>
    intro ht hl
    obtain ⟨hc, ha, hb⟩ := ht
    refine Ev.step (fun k => by rw [spec_l3Holds.f]) ?_
    have hbp := b.enc_pos
    have hlen : (Tm.bin c a b).enc.length = a.enc.length + b.enc.length + 1 := by simp [Tm.enc]; omega
    have g : (Tm.bin c a b).enc.getD (a.enc.length + b.enc.length) zM = ⟨c, 0⟩ := by
      have := getD_last zM (a.enc ++ b.enc) ⟨c, 0⟩
      rwa [List.length_append] at this
    rw [hlen, w64 (x := ((a.enc.length + b.enc.length + 1 : Nat) : Int) - 1) (by omega) (by omega), show ((a.enc.length + b.enc.length + 1 : Nat) : Int) - 1 = ((a.enc.length + b.enc.length : Nat) : Int) by omega, rdM, g,
      w64 (x := ((a.enc.length + b.enc.length : Nat) : Int) - 1) (by omega) (by omega), Int.toNat_natCast]
    have tk : (Tm.bin c a b).enc.take (a.enc.length + b.enc.length) = a.enc ++ b.enc := by
      rw [← List.length_append]
      exact List.take_left
    rw [tk]
    refine ev_pos (by omega) ?_
    refine ev_pos (by omega) ?_
    refine ev_neg (by dsimp only; omega) ?_
    refine ev_neg (by dsimp only; omega) ?_
    refine ev_neg (by dsimp only; omega) ?_
    have hst : Ev (fun k => spec_l2Starts.f k (Tm.bin c a b).enc (((a.enc.length + b.enc.length : Nat) : Int) - 1)) (a.enc.length : Int) := by
      unfold spec_l2Starts.f
      refine starts_l n (Tm.bin c a b).enc (by omega) (a.enc.length : Int) b a.enc [⟨c, 0⟩] 0 hb rfl (by omega) ?_
      refine Ev.step (fun k => by rw [spec_l2Starts.l0]) ?_
      refine ev_neg (by omega) (ev_ret ?_)
      rw [w64 (by omega) (by omega)]
      omega
    refine ev_bind hst ?_
    rw [Int.toNat_natCast]
    have tk2 : (Tm.bin c a b).enc.take a.enc.length = a.enc := by simp [Tm.enc]
    rw [tk2, List.drop_left]
    refine ev_pos (by omega) ?_
    refine ev_pos (by omega) ?_
    refine ev_bind (iha ha (by omega)) ?_
    refine ev_pos (by omega) ?_
    refine ev_pos (by omega) ?_
    refine ev_bind (ihb hb (by omega)) ?_
    simp only [Tm.val]
    rcases hc with rfl | rfl | rfl
    · refine ev_pos rfl ?_
      by_cases hv : a.val w = true
      · exact ev_pos hv (ev_ret (by simp [op2, hv]))
      · exact ev_neg hv (ev_ret (by simp [op2, hv]))
    · refine ev_neg (by decide) (ev_pos rfl ?_)
      by_cases hv : a.val w = true
      · exact ev_pos hv (ev_ret (by simp [op2, hv]))
      · exact ev_neg hv (ev_ret (by simp [op2, hv]))
    · refine ev_neg (by decide) (ev_neg (by decide) (ev_ret (by simp [op2])))
end Go.Proofs.Ytbhmippoeimliaa.M

/- The reference's ClaimOk, StoryOk and l4May. -/
set_option linter.unusedVariables false
set_option linter.unusedSimpArgs false
namespace Go.Proofs.Ytbhmippoeimliaa.M
open Go Go.RowKit Go.Proofs.YtbhmippoeimliaaW.PrintWords Go.Proofs.Ytbhmippoeimliaa.P
theorem spec_holdsT {n : Int} {l : List Mk} (h : TermP n l) (w : Nat) (hw : w < 16) : Ev (fun k => spec_l3Holds.f k l (w : Int)) (holdB l w) := by
  obtain ⟨t, ht, rfl⟩ := h.tree
  rw [holdB_enc n w t ht]
  exact spec_holdsE n h.1.2 w hw t ht (by have := h.2.1; omega)
theorem spec_mayE {n : Int} {l : List Mk} (h : TermP n l) (who : Int) (h0 : 0 ≤ who) (h4 : who < 4) (w : Nat) (hw : w < 16) : Ev (fun k => spec_l4May.f k who l (w : Int)) (mayB who.toNat l w) := by
  unfold spec_l4May.f
  refine ev_pos h0 ?_
  refine ev_bind (spec_holdsT h w hw) (ev_ret ?_)
  rw [show who = ((who.toNat : Nat) : Int) by omega, shr_tmod2 w who.toNat (by omega), beq_one]
  unfold mayB
  rw [Int.toNat_natCast]

end Go.Proofs.Ytbhmippoeimliaa.M

/- MadeStory of both: in a world each says a term, or denies it. -/
set_option linter.unusedVariables false
set_option linter.unusedSimpArgs false
namespace Go.Proofs.Ytbhmippoeimliaa.M
open Go Go.RowKit Go.Proofs.YtbhmippoeimliaaW.PrintWords Go.Proofs.Ytbhmippoeimliaa.P
theorem clone_is (l : List Mk) (h : l.length < 8796093022208) : impl_Mark.f l = some l := by
  unfold impl_Mark.f
  simp
  omega
theorem rdM2 (s : List (List Mk)) (i : Nat) : rd_L2 s (i : Int) = s.getD i [] := by simp [rd_L2]
def notM (l : List Mk) : List Mk := l ++ [⟨2, 0⟩]
/-- What one of them says. -/
def oneM (n who : Int) (wd : Nat) (l : List Mk) : Option Cl := if ClaimP n who l then (if mayB who.toNat l wd = true then some ⟨who, l⟩ else if ClaimP n who (notM l) then some ⟨who, notM l⟩ else none) else none
def madeL (n : Int) (wd : Nat) (ts : List (List Mk)) : Nat → Nat → List Cl → List Cl × Bool
  | 0, _, acc => (acc, true)
  | d + 1, i, acc => match oneM n (i : Int) wd (ts.getD i []) with
    | none => ([], false)
    | some c => madeL n wd ts d (i + 1) (acc ++ [c])
def worldP (n w : Int) : Prop := 1 ≤ n ∧ n ≤ 4 ∧ 0 ≤ w ∧ w < ((pw n.toNat : Nat) : Int)
instance (n w : Int) : Decidable (worldP n w) := by unfold worldP; infer_instance
theorem pw_i {n : Nat} (h : n ≤ 4) : pw n ≤ 16 := Nat.pow_le_pow_right (n := 2) (by decide) h
theorem impl_worldT (n w : Int) : impl_WorldOk.f n w = some (decide (worldP n w)) := by
  unfold impl_WorldOk.f
  rw [peopleOkT]
  simp only [Option.bind_some]
  by_cases h : 1 ≤ n ∧ n ≤ 4
  · obtain ⟨m, rfl⟩ : ∃ m : Nat, n = (m : Int) := ⟨n.toNat, by omega⟩
    rw [if_pos (decide_eq_true h)]
    by_cases h0 : w ≥ 0
    · rw [if_pos h0, if_pos (by omega), shl_nat m (by omega)]
      congr 1
      rw [Bool.eq_iff_iff, decide_eq_true_eq, decide_eq_true_eq]
      unfold worldP
      rw [Int.toNat_natCast]
      omega
    · rw [if_neg h0]
      congr 1
      rw [eq_comm, decide_eq_false_iff_not]
      exact fun h' => h0 h'.2.2.1
  · rw [if_neg (fun h' => h (of_decide_eq_true h'))]
    congr 1
    rw [eq_comm, decide_eq_false_iff_not]
    exact fun h' => h ⟨h'.1, h'.2.1⟩
theorem spec_worldT (n w : Int) : spec_WorldOk.f n w = some (decide (worldP n w)) := by
  unfold spec_WorldOk.f
  rw [l1InT]
  simp only [Option.bind_some]
  by_cases h : 1 ≤ n ∧ n ≤ 4
  · obtain ⟨m, rfl⟩ : ∃ m : Nat, n = (m : Int) := ⟨n.toNat, by omega⟩
    have hp := pw_i (n := m) (by omega)
    have hp1 := pw_pos m
    rw [if_pos (decide_eq_true h), if_pos (by omega), shl_nat m (by omega), l1InT, w64 (by omega) (by omega)]
    simp only [Option.bind_some]
    congr 1
    rw [Bool.eq_iff_iff, decide_eq_true_eq, decide_eq_true_eq]
    unfold worldP
    rw [Int.toNat_natCast]
    omega
  · rw [if_neg (fun h' => h (of_decide_eq_true h'))]
    congr 1
    rw [eq_comm, decide_eq_false_iff_not]
    exact fun h' => h ⟨h'.1, h'.2.1⟩
/-- MadeStory told. -/
def madeStF (n w : Int) (ts : List (List Mk)) : List Cl × Bool := if worldP n w ∧ (ts.length : Int) ≤ n then madeL n w.toNat ts ts.length 0 [] else ([], false)
theorem impl_claimByF (n who : Int) (l : List Mk) (hl : l.length < 8796093022208) : Ev (fun k => impl_claimBy.f k n who l) (if ClaimP n who l then (who, l, true) else (0, [], false)) := by
  unfold impl_claimBy.f
  refine ev_bindc (clone_is l hl) ?_
  obtain ⟨b, hb, hi⟩ := impl_claimOk n who l
  refine ev_bind hb ?_
  cases b with
  | true => rw [if_pos (hi.1 rfl)]; exact ev_pos rfl (ev_ret rfl)
  | false => rw [if_neg (fun h => Bool.noConfusion (hi.2 h))]; exact ev_neg (by decide) (ev_ret rfl)
theorem impl_denyF (n who : Int) (l : List Mk) (hl : l.length ≤ 1048576) (hc : ClaimP n who l) : Ev (fun k => impl_DenyClaim.f k n who l) (if ClaimP n who (notM l) then (who, notM l, true) else (0, [], false)) := by
  unfold impl_DenyClaim.f
  refine ev_bind ((impl_claimOk n who l).ev (b := true) ⟨fun _ => hc, fun _ => rfl⟩) ?_
  refine ev_pos rfl ?_
  refine ev_bindc (clone_is l (by omega)) ?_
  refine ev_bindc rfl ?_
  refine ev_pos (by simp; omega) ?_
  refine ev_bind (impl_claimByF n who (notM l) (by unfold notM; simp; omega)) (ev_ret ?_)
  by_cases h : ClaimP n who (notM l)
  · rw [if_pos h]
  · rw [if_neg h]
theorem spec_denyF (n who : Int) (hn : n ≤ 9223372036854775807) (l : List Mk) (hl : l.length ≤ 1048576) (h64 : M64 l) (hc : ClaimP n who l) : Ev (fun k => spec_DenyClaim.f k n who l) (if ClaimP n who (notM l) then (who, notM l, true) else (0, [], false)) := by
  have h64' : M64 (notM l) := fun i => by
    unfold notM
    by_cases hi : i < l.length
    · have := h64 i
      rw [List.getD_eq_getElem?_getD, List.getElem?_append_left hi, ← List.getD_eq_getElem?_getD]
      exact this
    · rw [List.getD_eq_getElem?_getD, List.getElem?_append_right (by omega)]
      by_cases h0 : i - l.length = 0
      · rw [h0]; decide
      · rw [List.getElem?_eq_none (by simp; omega)]; decide
  unfold spec_DenyClaim.f
  refine ev_bindc rfl ?_
  refine ev_pos (by simp; omega) ?_
  refine ev_bindc rfl ?_
  refine ev_bindc rfl ?_
  refine ev_pos (by simp; omega) ?_
  refine ev_bindc rfl ?_
  refine ev_bind ((spec_claimOk n hn who l h64 (by omega)).ev (b := true) ⟨fun _ => hc, fun _ => rfl⟩) ?_
  refine ev_pos rfl ?_
  rw [List.nil_append]
  show Ev (fun k => (spec_ClaimOk.f k n who (notM l)).bind _) _
  obtain ⟨b, hb, hi⟩ := spec_claimOk n hn who (notM l) h64' (by unfold notM; simp; omega)
  refine ev_bind hb ?_
  cases b with
  | true => rw [if_pos (hi.1 rfl)]; exact ev_pos rfl (ev_ret rfl)
  | false => rw [if_neg (fun h => Bool.noConfusion (hi.2 h))]; exact ev_neg (by decide) (ev_ret rfl)
theorem impl_made_l (n : Nat) (hn : n ≤ 4) (wd : Nat) (hwd : wd < 16) (ts : List (List Mk)) (hts : ts.length ≤ 4) (hl : ∀ j, (ts.getD j []).length ≤ 1048576) : ∀ d i (acc : List Cl), i + d = ts.length → acc.length ≤ i →
    Ev (fun k => impl_MadeStory.l0 k (n : Int) (wd : Int) acc ts (ts.length : Int) (i : Int)) (madeL (n : Int) wd ts d i acc) := by
  intro d
  induction d with
  | zero =>
    intro i acc hi ha
    refine Ev.step (fun k => by rw [impl_MadeStory.l0]) ?_
    exact ev_neg (by omega) (ev_ret rfl)
  | succ d ih =>
    intro i acc hi ha
    refine Ev.step (fun k => by rw [impl_MadeStory.l0]) ?_
    refine ev_pos (by omega) ?_
    refine ev_pos (by omega) ?_
    refine ev_pos (by omega) ?_
    rw [rdM2]
    have hlen := hl i
    refine ev_bind (impl_claimByF (n : Int) (i : Int) (ts.getD i []) (by omega)) ?_
    unfold madeL oneM
    by_cases hc : ClaimP (n : Int) (i : Int) (ts.getD i [])
    · rw [if_pos hc, if_pos hc]
      dsimp only
      refine ev_pos rfl ?_
      refine ev_bind (impl_mayE hc.2.2.1 (i : Int) (by omega) (by omega) wd hwd) ?_
      rw [Int.toNat_natCast]
      refine Ev.step (fun k => by rw [impl_MadeStory.j2]) ?_
      cases hm : mayB i (ts.getD i []) wd with
      | true =>
        rw [if_pos rfl]
        refine ev_neg (by decide) (ev_pos rfl (ev_pos (by omega) ?_))
        rw [w64s (by omega)]
        exact ih (i + 1) _ (by omega) (by simp; omega)
      | false =>
        rw [if_neg (by decide)]
        refine ev_pos rfl ?_
        refine ev_bind (impl_denyF (n : Int) (i : Int) (ts.getD i []) hlen hc) ?_
        by_cases hd : ClaimP (n : Int) (i : Int) (notM (ts.getD i []))
        · rw [if_pos hd, if_pos hd]
          dsimp only
          refine ev_pos rfl (ev_pos (by omega) ?_)
          rw [w64s (by omega)]
          exact ih (i + 1) _ (by omega) (by simp; omega)
        · rw [if_neg hd, if_neg hd]
          exact ev_neg (by decide) (ev_ret rfl)
    · rw [if_neg hc, if_neg hc]
      dsimp only
      refine ev_neg (by decide) ?_
      refine Ev.step (fun k => by rw [impl_MadeStory.j2]) ?_
      exact ev_neg (by decide) (ev_neg (by decide) (ev_ret rfl))
theorem impl_madeE (n w : Int) (ts : List (List Mk)) (hl : ∀ j, (ts.getD j []).length ≤ 1048576) : Ev (fun k => impl_MadeStory.f k n w ts) (madeStF n w ts) := by
  unfold impl_MadeStory.f madeStF
  refine ev_bindc (impl_worldT n w) ?_
  by_cases h : worldP n w
  · refine ev_pos (decide_eq_true h) ?_
    refine Ev.step (fun k => by rw [impl_MadeStory.j0]) ?_
    by_cases h2 : (ts.length : Int) ≤ n
    · rw [if_pos ⟨h, h2⟩]
      refine ev_neg (by simp; omega) ?_
      obtain ⟨a, b, c, d⟩ := h
      obtain ⟨m, rfl⟩ : ∃ m : Nat, n = (m : Int) := ⟨n.toNat, by omega⟩
      obtain ⟨v, rfl⟩ : ∃ v : Nat, w = (v : Int) := ⟨w.toNat, by omega⟩
      rw [Int.toNat_natCast] at *
      have := pw_i (n := m) (by omega)
      exact impl_made_l m (by omega) v (by omega) ts (by omega) hl ts.length 0 [] (by omega) (Nat.le_refl _)
    · rw [if_neg (fun h' => h2 h'.2)]
      exact ev_pos (by simp; omega) (ev_ret rfl)
  · rw [if_neg (fun h' => h h'.1)]
    refine ev_neg (fun h' => h (of_decide_eq_true h')) ?_
    refine Ev.step (fun k => by rw [impl_MadeStory.j0]) ?_
    exact ev_pos rfl (ev_ret rfl)
theorem spec_made_l (n : Nat) (hn : n ≤ 4) (wd : Nat) (hwd : wd < 16) (ts : List (List Mk)) (hts : ts.length ≤ 4) (hl : ∀ j, (ts.getD j []).length ≤ 1048576) (h64 : ∀ j, M64 (ts.getD j [])) : ∀ d i (acc : List Cl), i + d = ts.length → acc.length ≤ i →
    Ev (fun k => spec_MadeStory.l0 k (n : Int) (wd : Int) ts acc (i : Int)) (madeL (n : Int) wd ts d i acc) := by
  intro d
  induction d with
  | zero =>
    intro i acc hi ha
    refine Ev.step (fun k => by rw [spec_MadeStory.l0]) ?_
    exact ev_neg (by omega) (ev_ret rfl)
  | succ d ih =>
    intro i acc hi ha
    have hlen := hl i
    refine Ev.step (fun k => by rw [spec_MadeStory.l0]) ?_
    refine ev_pos (by omega) ?_
    refine ev_bindc rfl ?_
    rw [rdM2]
    refine ev_pos (by omega) ?_
    refine ev_pos (by simp only [List.length_nil]; omega) ?_
    refine ev_bindc rfl ?_
    rw [List.nil_append]
    obtain ⟨b, hb, hi2⟩ := spec_claimOk (n : Int) (by omega) (i : Int) (ts.getD i []) (h64 i) (by omega)
    refine ev_bind hb ?_
    unfold madeL oneM
    cases b with
    | true =>
      have hc := hi2.1 rfl
      rw [if_pos hc]
      refine ev_pos rfl ?_
      refine ev_bind (spec_mayE hc.2.2.1 (i : Int) (by omega) (by omega) wd hwd) ?_
      rw [Int.toNat_natCast]
      cases hm : mayB i (ts.getD i []) wd with
      | true =>
        rw [if_pos rfl]
        refine ev_pos rfl (ev_pos (by omega) ?_)
        rw [w64s (by omega)]
        exact ih (i + 1) _ (by omega) (by simp; omega)
      | false =>
        rw [if_neg (by decide)]
        refine ev_neg (by decide) ?_
        refine ev_bind (spec_denyF (n : Int) (i : Int) (by omega) (ts.getD i []) hlen (h64 i) hc) ?_
        by_cases hd : ClaimP (n : Int) (i : Int) (notM (ts.getD i []))
        · rw [if_pos hd, if_pos hd]
          dsimp only
          refine ev_pos rfl (ev_pos (by omega) ?_)
          rw [w64s (by omega)]
          exact ih (i + 1) _ (by omega) (by simp; omega)
        · rw [if_neg hd, if_neg hd]
          exact ev_neg (by decide) (ev_ret rfl)
    | false =>
      rw [if_neg (fun h => Bool.noConfusion (hi2.2 h))]
      exact ev_neg (by decide) (ev_ret rfl)
theorem spec_madeE (n w : Int) (ts : List (List Mk)) (hl : ∀ j, (ts.getD j []).length ≤ 1048576) (h64 : ∀ j, M64 (ts.getD j [])) : Ev (fun k => spec_MadeStory.f k n w ts) (madeStF n w ts) := by
  unfold spec_MadeStory.f madeStF
  refine ev_bindc rfl ?_
  refine ev_bindc (spec_worldT n w) ?_
  by_cases h : worldP n w
  · refine ev_pos (decide_eq_true h) ?_
    refine Ev.step (fun k => by rw [spec_MadeStory.j0]) ?_
    by_cases h2 : (ts.length : Int) ≤ n
    · rw [if_pos ⟨h, h2⟩]
      refine ev_neg (by simp; omega) ?_
      obtain ⟨a, b, c, d⟩ := h
      obtain ⟨m, rfl⟩ : ∃ m : Nat, n = (m : Int) := ⟨n.toNat, by omega⟩
      obtain ⟨v, rfl⟩ : ∃ v : Nat, w = (v : Int) := ⟨w.toNat, by omega⟩
      rw [Int.toNat_natCast] at *
      have := pw_i (n := m) (by omega)
      exact spec_made_l m (by omega) v (by omega) ts (by omega) hl h64 ts.length 0 [] (by omega) (Nat.le_refl _)
    · rw [if_neg (fun h' => h2 h'.2)]
      exact ev_pos (by simp; omega) (ev_ret rfl)
  · rw [if_neg (fun h' => h h'.1)]
    refine ev_neg (fun h' => h (of_decide_eq_true h')) ?_
    refine Ev.step (fun k => by rw [spec_MadeStory.j0]) ?_
    exact ev_pos rfl (ev_ret rfl)
/-- What is made is small. -/
theorem madeL_small (n : Int) (wd : Nat) (ts : List (List Mk)) : ∀ d i (acc : List Cl), (∀ c ∈ acc, c.f1.length ≤ 14) → (madeL n wd ts d i acc).1.length ≤ acc.length + d ∧ ∀ c ∈ (madeL n wd ts d i acc).1, c.f1.length ≤ 14 := by
  intro d
  induction d with
  | zero => exact fun i acc h => ⟨Nat.le_refl _, h⟩
  | succ d ih =>
    intro i acc h
    have hone : ∀ c, oneM n (i : Int) wd (ts.getD i []) = some c → c.f1.length ≤ 14 := fun c hc => by
      unfold oneM at hc
      by_cases h1 : ClaimP n (i : Int) (ts.getD i [])
      · rw [if_pos h1] at hc
        by_cases h2 : mayB (i : Int).toNat (ts.getD i []) wd = true
        · rw [if_pos h2] at hc
          cases hc
          have := h1.2.2.2
          show (ts.getD i []).length ≤ 14
          omega
        · rw [if_neg h2] at hc
          by_cases h3 : ClaimP n (i : Int) (notM (ts.getD i []))
          · rw [if_pos h3] at hc
            cases hc
            have := h3.2.2.2
            show (notM (ts.getD i [])).length ≤ 14
            omega
          · rw [if_neg h3] at hc
            cases hc
      · rw [if_neg h1] at hc
        cases hc
    unfold madeL
    cases ho : oneM n (i : Int) wd (ts.getD i []) with
    | none => exact ⟨Nat.zero_le _, fun c hc => by cases hc⟩
    | some c =>
      obtain ⟨a, b⟩ := ih (i + 1) (acc ++ [c]) fun x hx => by
        rcases List.mem_append.1 hx with hx | hx
        · exact h x hx
        · rw [List.mem_singleton.1 hx]; exact hone c ho
      refine ⟨?_, b⟩
      rw [List.length_append, List.length_singleton] at a
      show (madeL n wd ts d (i + 1) (acc ++ [c])).1.length ≤ _
      omega
theorem madeSt_small (n w : Int) (ts : List (List Mk)) : (madeStF n w ts).1.length ≤ 4 ∧ ∀ c ∈ (madeStF n w ts).1, c.f1.length ≤ 14 := by
  unfold madeStF
  by_cases h : worldP n w ∧ (ts.length : Int) ≤ n
  · rw [if_pos h]
    obtain ⟨a, b⟩ := madeL_small n w.toNat ts ts.length 0 [] (fun c hc => by cases hc)
    have h1 := h.1.2.1
    have h2 := h.2
    simp only [List.length_nil] at a
    exact ⟨by omega, b⟩
  · rw [if_neg h]
    exact ⟨Nat.zero_le _, fun c hc => by cases hc⟩
end Go.Proofs.Ytbhmippoeimliaa.M

/- The exact laws' helpers over marks. -/
set_option linter.unusedVariables false
set_option linter.unusedSimpArgs false
namespace Go.Proofs.Ytbhmippoeimliaa.M
open Go Go.RowKit Go.Proofs.YtbhmippoeimliaaW.PrintWords Go.Proofs.Ytbhmippoeimliaa.P
abbrev LMk := S107
abbrev zLM : LMk := z107
theorem rdLM (s : List LMk) (i : Nat) : rd_T107 s (i : Int) = s.getD i zLM := by simp [rd_T107]
def toM (l : LMk) : Mk := ⟨l.f0, l.f1⟩
def toMs (l : List LMk) : List Mk := l.map toM
theorem toMs_len (l : List LMk) : (toMs l).length = l.length := by simp [toMs]
theorem sz_marks (l : List LMk) (a : Int) (hl : l.length ≤ maxLen) (h0 : 0 ≤ a) (h1 : a ≤ 1048576) : ∃ r, laws_szMarkS.f l a = some r ∧ r ≤ a ∧ (0 ≤ r → (l.length : Int) ≤ a) := by
  unfold maxLen at hl
  unfold laws_szMarkS.f
  rw [w64 (by omega) (by omega)]
  by_cases h : a - (l.length : Int) < 0
  · exact ⟨-1, if_pos h, by omega, fun h => absurd h (by decide)⟩
  · exact ⟨_, if_neg h, by omega, fun _ => by omega⟩
theorem to_marks_l (l : List LMk) (hn : l.length ≤ 1048576) : ∀ d i (x : List Mk), i + d = l.length → x.length = l.length → (∀ j, j < i → x.getD j zM = toM (l.getD j zLM)) → Ev (fun k => laws_toMarkS.l0 k l x (i : Int)) (toMs l) := by
  intro d
  induction d with
  | zero =>
    intro i x hi hx h
    refine Ev.step (fun k => by rw [laws_toMarkS.l0]) ?_
    refine ev_neg (by omega) (ev_ret (ext_getD zM x (toMs l) (by rw [toMs_len]; exact hx) fun j hj => ?_))
    rw [toMs_len] at hj
    rw [h j (by omega)]
    unfold toMs
    rw [getD_lt _ _ _ hj, getD_lt _ _ _ (by simpa using hj), List.getElem_map]
  | succ d ih =>
    intro i x hi hx h
    refine Ev.step (fun k => by rw [laws_toMarkS.l0]) ?_
    rw [w64s (by omega), rdLM, Int.toNat_natCast]
    refine ev_pos (by omega) ?_
    refine ev_pos (by omega) ?_
    refine ev_bindc (a := ((l.getD i zLM).f0, (l.getD i zLM).f1)) rfl ?_
    refine ev_pos (by omega) ?_
    refine ih (i + 1) _ (by omega) (by simpa using hx) fun j hj => ?_
    rw [set_getD zM x i _ (by omega)]
    split
    · rename_i e
      rw [e]
      rfl
    · exact h j (by omega)
theorem to_marks (l : List LMk) (hn : l.length ≤ 1048576) : Ev (fun k => laws_toMarkS.f k l) (toMs l) := by
  unfold laws_toMarkS.f
  rw [Int.toNat_natCast]
  refine ev_pos (by omega) ?_
  refine ev_pos (by omega) ?_
  exact to_marks_l l hn l.length 0 _ (by omega) (by simp) fun j hj => by omega
theorem wf_le {x : Int} (h : (Lit.int .i64 x).wf = true) : -9223372036854775808 ≤ x ∧ x ≤ 9223372036854775807 := by
  simp [Lit.wf, IntKind.min, IntKind.max, IntKind.bits, IntKind.signed] at h
  omega
theorem toMs64 (l : List LMk) (h : ∀ y1 ∈ l, ((Lit.int .i64 y1.f0).wf = true) ∧ ((Lit.int .i64 y1.f1).wf = true)) : M64 (toMs l) := by
  refine getD_all (toMs l) zM (fun m => m.f1 ≤ 9223372036854775807) (by decide) fun m hm => ?_
  obtain ⟨y, hy, rfl⟩ := List.mem_map.1 hm
  exact (wf_le (h y hy).2).2
end Go.Proofs.Ytbhmippoeimliaa.M

/- The exact laws' comparing of claims. -/
set_option linter.unusedVariables false
set_option linter.unusedSimpArgs false
namespace Go.Proofs.Ytbhmippoeimliaa.M
open Go Go.RowKit Go.Proofs.YtbhmippoeimliaaW.PrintWords Go.Proofs.Ytbhmippoeimliaa.P
theorem eq_marks_l (l : List Mk) (hn : l.length < 4611686018427387904) : ∀ d i, i + d = l.length → Ev (fun k => laws_eqMarkS.l0 k l l (i : Int)) true := by
  intro d
  induction d with
  | zero =>
    intro i hi
    refine Ev.step (fun k => by rw [laws_eqMarkS.l0]) ?_
    exact ev_neg (by omega) (ev_ret rfl)
  | succ d ih =>
    intro i hi
    refine Ev.step (fun k => by rw [laws_eqMarkS.l0]) ?_
    rw [w64s (by omega)]
    refine ev_pos (by omega) ?_
    refine ev_pos (by omega) ?_
    refine ev_pos (by omega) ?_
    refine ev_bindc (a := true) (by unfold laws_eqMark.f; simp) ?_
    exact ev_pos rfl (ih (i + 1) (by omega))
theorem eq_marks (l : List Mk) (hn : l.length < 4611686018427387904) : Ev (fun k => laws_eqMarkS.f k l l) true := by
  unfold laws_eqMarkS.f
  exact ev_pos rfl (eq_marks_l l hn l.length 0 (by omega))
theorem eq_claims_l (l : List Cl) (hn : l.length < 4611686018427387904) (hm : ∀ j, (l.getD j zC).f1.length < 4611686018427387904) : ∀ d i, i + d = l.length → Ev (fun k => laws_eqClaimS.l0 k l l (i : Int)) true := by
  intro d
  induction d with
  | zero =>
    intro i hi
    refine Ev.step (fun k => by rw [laws_eqClaimS.l0]) ?_
    exact ev_neg (by omega) (ev_ret rfl)
  | succ d ih =>
    intro i hi
    refine Ev.step (fun k => by rw [laws_eqClaimS.l0]) ?_
    rw [w64s (by omega), rdC]
    refine ev_pos (by omega) ?_
    refine ev_pos (by omega) ?_
    refine ev_pos (by omega) ?_
    refine ev_bind (a := true) ?_ ?_
    · unfold laws_eqClaim.f
      refine ev_pos rfl ?_
      exact ev_bind (eq_marks _ (hm i)) (ev_pos rfl (ev_ret rfl))
    · exact ev_pos rfl (ih (i + 1) (by omega))
theorem eq_claims (l : List Cl) (hn : l.length < 4611686018427387904) (hm : ∀ j, (l.getD j zC).f1.length < 4611686018427387904) : Ev (fun k => laws_eqClaimS.f k l l) true := by
  unfold laws_eqClaimS.f
  exact ev_pos rfl (eq_claims_l l hn hm l.length 0 (by omega))
end Go.Proofs.Ytbhmippoeimliaa.M

/- The exact laws' helpers that mark claims and look whether they are still held. -/
set_option linter.unusedVariables false
set_option linter.unusedSimpArgs false
namespace Go.Proofs.Ytbhmippoeimliaa.M
open Go Go.RowKit Go.Proofs.YtbhmippoeimliaaW.PrintWords Go.Proofs.Ytbhmippoeimliaa.P
theorem at_mid {α : Type} (z : α) (p : List α) (c : α) (s : List α) : (p ++ c :: s).getD p.length z = c := by
  rw [List.getD_eq_getElem?_getD, List.getElem?_append_right (Nat.le_refl _), Nat.sub_self]
  rfl
theorem set_mid {α : Type} (p : List α) (c x : α) (s : List α) : (p ++ c :: s).set p.length x = p ++ x :: s := by
  rw [List.set_append_right _ _ (Nat.le_refl _), Nat.sub_self]
  rfl
theorem step_mid {α : Type} (p : List α) (c : α) (s : List α) : p ++ c :: s = (p ++ [c]) ++ s := by simp
def markedM : List Mk → Int → List Mk
  | [], _ => []
  | _ :: s, a => ⟨a, a + 1⟩ :: markedM s (a + 2)
theorem mark_marks_l : ∀ (s p : List Mk) (a : Int), 0 ≤ a → a + 2 * s.length ≤ 4000000000000000000 → p.length + s.length ≤ 2000000000 → Ev (fun k => laws_markMarkS.l0 k (p ++ s) a (p.length : Int)) (a + 2 * s.length, p ++ markedM s a) := by
  intro s
  induction s with
  | nil =>
    intro p a h0 h1 h2
    refine Ev.step (fun k => by rw [laws_markMarkS.l0]) ?_
    exact ev_neg (by simp) (ev_ret (by simp [markedM]))
  | cons c s ih =>
    intro p a h0 h1 h2
    simp only [List.length_cons] at h1 h2
    have := ih (p ++ [⟨a, a + 1⟩]) (a + 2) (by omega) (by omega) (by simp; omega)
    refine Ev.step (fun k => by rw [laws_markMarkS.l0]) ?_
    refine ev_pos (by simp; omega) (ev_pos (by omega) ?_)
    simp only [Option.bind_some, Int.toNat_natCast, set_mid]
    rw [w64s (by omega), w64 (x := a + 1) (by omega) (by omega), w64 (x := a + 1 + 1) (by omega) (by omega)]
    unfold rd_T81
    simp only [Int.toNat_natCast, at_mid]
    rw [show a + 1 + 1 = a + 2 by omega, step_mid, show p.length + 1 = (p ++ [(⟨a, a + 1⟩ : Mk)]).length by simp]
    refine ev_eq this ?_
    simp only [List.length_cons, markedM, Prod.mk.injEq]
    exact ⟨by omega, by simp⟩
theorem markedM_len : ∀ (s : List Mk) (a : Int), (markedM s a).length = s.length
  | [], _ => rfl
  | _ :: s, a => by simp [markedM, markedM_len s]
theorem held_marks_l : ∀ (s p : List Mk) (a : Int), 0 ≤ a → a + 2 * s.length ≤ 4000000000000000000 → p.length + s.length ≤ 2000000000 → Ev (fun k => laws_heldMarkS.l0 k (p ++ markedM s a) a (p.length : Int)) (a + 2 * s.length) := by
  intro s
  induction s with
  | nil =>
    intro p a h0 h1 h2
    refine Ev.step (fun k => by rw [laws_heldMarkS.l0]) ?_
    exact ev_neg (by simp [markedM]) (ev_ret (by simp))
  | cons c s ih =>
    intro p a h0 h1 h2
    simp only [List.length_cons] at h1 h2
    have := ih (p ++ [⟨a, a + 1⟩]) (a + 2) (by omega) (by omega) (by simp; omega)
    refine Ev.step (fun k => by rw [laws_heldMarkS.l0]) ?_
    refine ev_pos (by simp [markedM]; omega) (ev_pos (by omega) ?_)
    unfold rd_T81
    simp only [Int.toNat_natCast, markedM, at_mid]
    rw [w64s (by omega), w64 (x := a + 1) (by omega) (by omega), w64 (x := a + 1 + 1) (by omega) (by omega)]
    refine ev_pos (by simp) (ev_pos (by simp) ?_)
    rw [show a + 1 + 1 = a + 2 by omega, step_mid, show p.length + 1 = (p ++ [(⟨a, a + 1⟩ : Mk)]).length by simp]
    refine ev_eq this ?_
    simp only [List.length_cons]
    omega
def endC : List Cl → Int → Int
  | [], a => a
  | c :: s, a => endC s (a + 1 + 2 * c.f1.length)
def markedC : List Cl → Int → List Cl
  | [], _ => []
  | c :: s, a => ⟨a, markedM c.f1 (a + 1)⟩ :: markedC s (a + 1 + 2 * c.f1.length)
theorem endC_le : ∀ (s : List Cl) (a : Int), a ≤ endC s a
  | [], _ => Int.le_refl _
  | c :: s, a => by
    have := endC_le s (a + 1 + 2 * c.f1.length)
    unfold endC
    omega
theorem mark_claims_l : ∀ (s p : List Cl) (a : Int), 0 ≤ a → endC s a ≤ 1000000000 → p.length + s.length ≤ 1000000000 → Ev (fun k => laws_markClaimS.l0 k (p ++ s) a (p.length : Int)) (endC s a, p ++ markedC s a) := by
  intro s
  induction s with
  | nil =>
    intro p a h0 h1 h2
    refine Ev.step (fun k => by rw [laws_markClaimS.l0]) ?_
    exact ev_neg (by simp) (ev_ret (by simp [markedC, endC]))
  | cons c s ih =>
    intro p a h0 h1 h2
    simp only [List.length_cons, endC] at h1 h2
    have hle := endC_le s (a + 1 + 2 * c.f1.length)
    have := ih (p ++ [⟨a, markedM c.f1 (a + 1)⟩]) (a + 1 + 2 * c.f1.length) (by omega) (by omega) (by simp; omega)
    have hm := mark_marks_l c.f1 [] (a + 1) (by omega) (by omega) (by simp; omega)
    refine Ev.step (fun k => by rw [laws_markClaimS.l0]) ?_
    refine ev_pos (by simp; omega) (ev_pos (by omega) ?_)
    unfold rd_T83
    simp only [Int.toNat_natCast, set_mid, at_mid]
    rw [w64s (by omega), w64 (x := a + 1) (by omega) (by omega)]
    refine ev_bind hm ?_
    dsimp only
    rw [step_mid, show p.length + 1 = (p ++ [(⟨a, [] ++ markedM c.f1 (a + 1)⟩ : Cl)]).length by simp]
    refine ev_eq this ?_
    simp only [endC, markedC, Prod.mk.injEq]
    exact ⟨trivial, by simp⟩
theorem held_claims_l : ∀ (s p : List Cl) (a : Int), 0 ≤ a → endC s a ≤ 1000000000 → p.length + s.length ≤ 1000000000 → Ev (fun k => laws_heldClaimS.l0 k (p ++ markedC s a) a (p.length : Int)) (endC s a) := by
  intro s
  induction s with
  | nil =>
    intro p a h0 h1 h2
    refine Ev.step (fun k => by rw [laws_heldClaimS.l0]) ?_
    exact ev_neg (by simp [markedC]) (ev_ret (by simp [endC]))
  | cons c s ih =>
    intro p a h0 h1 h2
    simp only [List.length_cons, endC] at h1 h2
    have hle := endC_le s (a + 1 + 2 * c.f1.length)
    have := ih (p ++ [⟨a, markedM c.f1 (a + 1)⟩]) (a + 1 + 2 * c.f1.length) (by omega) (by omega) (by simp; omega)
    have hm := held_marks_l c.f1 [] (a + 1) (by omega) (by omega) (by simp; omega)
    refine Ev.step (fun k => by rw [laws_heldClaimS.l0]) ?_
    refine ev_pos (by simp [markedC]; omega) (ev_pos (by omega) ?_)
    unfold rd_T83
    simp only [Int.toNat_natCast, markedC, at_mid]
    rw [w64s (by omega), w64 (x := a + 1) (by omega) (by omega)]
    refine ev_pos (by simp) (ev_bind hm (ev_neg (by omega) ?_))
    rw [step_mid, show p.length + 1 = (p ++ [(⟨a, markedM c.f1 (a + 1)⟩ : Cl)]).length by simp]
    exact ev_eq this rfl
theorem mark_claims (s : List Cl) (h : endC s 1 ≤ 1000000000) (hl : s.length ≤ 1000) : Ev (fun k => laws_markClaimS.f k s 1) (endC s 1, markedC s 1) := by
  unfold laws_markClaimS.f
  exact mark_claims_l s [] 1 (by decide) h (by simp; omega)
theorem held_claims (s : List Cl) (h : endC s 1 ≤ 1000000000) (hl : s.length ≤ 1000) : Ev (fun k => laws_heldClaimS.f k (markedC s 1) 1) (endC s 1) := by
  unfold laws_heldClaimS.f
  exact held_claims_l s [] 1 (by decide) h (by simp; omega)
end Go.Proofs.Ytbhmippoeimliaa.M

/- The exact laws' helpers over rows of marks: they measure, turn, compare and mark. (Type numbers of seat 3 stand in this text.) -/
set_option linter.unusedVariables false
set_option linter.unusedSimpArgs false
namespace Go.Proofs.Ytbhmippoeimliaa.M
open Go Go.RowKit Go.Proofs.YtbhmippoeimliaaW.PrintWords Go.Proofs.Ytbhmippoeimliaa.P
theorem rdMM (s : List (List Mk)) (i : Nat) : rd_L2 s (i : Int) = s.getD i [] := by simp [rd_L2]
theorem rdLMM (s : List (List LMk)) (i : Nat) : rd_L5 s (i : Int) = s.getD i [] := by simp [rd_L5]
def SmallM (s : List (List LMk)) : Prop := s.length ≤ 1048576 ∧ ∀ j, (s.getD j []).length ≤ 1048576
theorem sz_mm_l (s : List (List LMk)) (hl : s.length ≤ 1048576) (hr : ∀ i, (s.getD i []).length ≤ maxLen) : ∀ d i (a : Int), i + d = s.length → 0 ≤ a → a ≤ 1048576 →
    ∃ r, Ev (fun k => laws_szMarkSS.l0 k s a (i : Int)) r ∧ (0 ≤ r → ∀ j, i ≤ j → (s.getD j []).length ≤ 1048576) := by
  intro d
  induction d with
  | zero =>
    intro i a hi h0 ha
    refine ⟨a, Ev.step (fun k => by rw [laws_szMarkSS.l0]) (ev_neg (by omega) (ev_ret rfl)), fun _ j hj => ?_⟩
    rw [List.getD_eq_getElem?_getD, List.getElem?_eq_none (by omega)]
    exact Nat.zero_le _
  | succ d ih =>
    intro i a hi h0 ha
    obtain ⟨r, hr1, hr2, hr3⟩ := sz_marks (s.getD i []) a (hr i) h0 ha
    by_cases h : r < 0
    · refine ⟨-1, ?_, fun h => absurd h (by decide)⟩
      refine Ev.step (fun k => by rw [laws_szMarkSS.l0]) ?_
      refine ev_pos (by omega) ?_
      refine ev_pos (by omega) ?_
      rw [rdLMM]
      refine ev_bindc hr1 ?_
      exact ev_pos h (ev_ret rfl)
    · obtain ⟨q, hq, hj⟩ := ih (i + 1) r (by omega) (by omega) (by omega)
      refine ⟨q, ?_, fun h' j hj' => ?_⟩
      · refine Ev.step (fun k => by rw [laws_szMarkSS.l0]) ?_
        refine ev_pos (by omega) ?_
        refine ev_pos (by omega) ?_
        rw [rdLMM, w64s (by omega)]
        refine ev_bindc hr1 ?_
        exact ev_neg h hq
      · by_cases e : j = i
        · have := hr3 (by omega)
          rw [e]
          omega
        · exact hj h' j (by omega)
theorem sz_mm (s : List (List LMk)) (hl : s.length ≤ maxLen) (hr : ∀ i, (s.getD i []).length ≤ maxLen) : ∃ r, Ev (fun k => laws_szMarkSS.f k s 1048576) r ∧ (0 ≤ r → SmallM s) := by
  unfold maxLen at hl
  unfold laws_szMarkSS.f
  rw [w64 (by omega) (by omega)]
  by_cases h : 1048576 - (s.length : Int) < 0
  · exact ⟨-1, ev_pos h (ev_ret rfl), fun h => absurd h (by decide)⟩
  · obtain ⟨r, h1, h2⟩ := sz_mm_l s (by omega) hr s.length 0 (1048576 - (s.length : Int)) (by omega) (by omega) (by omega)
    exact ⟨r, ev_neg h h1, fun h' => ⟨by omega, fun j => h2 h' j (Nat.zero_le _)⟩⟩
def toMM (l : List (List LMk)) : List (List Mk) := l.map toMs
theorem toMM_len (l : List (List LMk)) : (toMM l).length = l.length := by simp [toMM]
theorem toMM_getD (l : List (List LMk)) (j : Nat) : (toMM l).getD j [] = toMs (l.getD j []) := by
  unfold toMM
  by_cases h : j < l.length
  · rw [getD_lt _ _ _ (by simpa using h), getD_lt _ _ _ h, List.getElem_map]
  · rw [List.getD_eq_getElem?_getD, List.getD_eq_getElem?_getD, List.getElem?_eq_none (by simpa using h), List.getElem?_eq_none (by omega)]
    rfl
theorem to_mm_l (l : List (List LMk)) (hn : SmallM l) : ∀ d i (x : List (List Mk)), i + d = l.length → x.length = l.length → (∀ j, j < i → x.getD j [] = toMs (l.getD j [])) → Ev (fun k => laws_toMarkSS.l0 k l x (i : Int)) (toMM l) := by
  have h1 := hn.1
  intro d
  induction d with
  | zero =>
    intro i x hi hx h
    refine Ev.step (fun k => by rw [laws_toMarkSS.l0]) ?_
    refine ev_neg (by omega) (ev_ret (ext_getD [] x (toMM l) (by rw [toMM_len]; exact hx) fun j hj => ?_))
    rw [toMM_len] at hj
    rw [h j (by omega), toMM_getD]
  | succ d ih =>
    intro i x hi hx h
    refine Ev.step (fun k => by rw [laws_toMarkSS.l0]) ?_
    rw [w64s (by omega), rdLMM, Int.toNat_natCast]
    refine ev_pos (by omega) ?_
    refine ev_pos (by omega) ?_
    refine ev_bind (to_marks _ (hn.2 i)) ?_
    refine ev_pos (by omega) ?_
    refine ih (i + 1) _ (by omega) (by simpa using hx) fun j hj => ?_
    rw [set_getD [] x i _ (by omega)]
    split
    · rename_i e
      rw [e]
    · exact h j (by omega)
theorem to_mm (l : List (List LMk)) (hn : SmallM l) : Ev (fun k => laws_toMarkSS.f k l) (toMM l) := by
  have h1 := hn.1
  unfold laws_toMarkSS.f
  rw [Int.toNat_natCast]
  refine ev_pos (by omega) ?_
  refine ev_pos (by omega) ?_
  exact to_mm_l l hn l.length 0 _ (by omega) (by simp) fun j hj => by omega
theorem eq_mm_l (l : List (List Mk)) (hn : l.length ≤ 1048576) (hr : ∀ j, (l.getD j []).length ≤ 1048576) : ∀ d i, i + d = l.length → Ev (fun k => laws_eqMarkSS.l0 k l l (i : Int)) true := by
  intro d
  induction d with
  | zero =>
    intro i hi
    refine Ev.step (fun k => by rw [laws_eqMarkSS.l0]) ?_
    exact ev_neg (by omega) (ev_ret rfl)
  | succ d ih =>
    intro i hi
    refine Ev.step (fun k => by rw [laws_eqMarkSS.l0]) ?_
    rw [w64s (by omega), rdMM]
    refine ev_pos (by omega) ?_
    refine ev_pos (by omega) ?_
    refine ev_pos (by omega) ?_
    refine ev_bind (eq_marks _ (by have := hr i; omega)) ?_
    exact ev_pos rfl (ih (i + 1) (by omega))
theorem eq_mm (l : List (List Mk)) (hn : l.length ≤ 1048576) (hr : ∀ j, (l.getD j []).length ≤ 1048576) : Ev (fun k => laws_eqMarkSS.f k l l) true := by
  unfold laws_eqMarkSS.f
  exact ev_pos rfl (eq_mm_l l hn hr l.length 0 (by omega))
/-- Marked: some number from one on. -/
theorem mark_mm_l : ∀ (s p : List (List Mk)) (a : Int), 1 ≤ a → a + 2097152 * s.length ≤ 3000000000000000000 → p.length + s.length ≤ 1048576 → (∀ r ∈ s, r.length ≤ 1048576) → ∃ (b : Int) (y : List (List Mk)), Ev (fun k => laws_markMarkSS.l0 k (p ++ s) a (p.length : Int)) (b, y) ∧ 1 ≤ b := by
  intro s
  induction s with
  | nil =>
    intro p a h0 he hl hr
    exact ⟨a, p ++ [], Ev.step (fun k => by rw [laws_markMarkSS.l0]) (ev_neg (by simp) (ev_ret rfl)), h0⟩
  | cons r s ih =>
    intro p a h0 he hl hr
    rw [List.length_cons] at hl he
    have h1 := hr r (by simp)
    obtain ⟨b, y, hb, hb1⟩ := ih (p ++ [markedM r a]) (a + 2 * r.length) (by omega) (by omega) (by simp; omega) fun x hx => hr x (by simp [hx])
    refine ⟨b, y, ?_, hb1⟩
    refine Ev.step (fun k => by rw [laws_markMarkSS.l0]) ?_
    refine ev_pos (by simp; omega) ?_
    refine ev_pos (by omega) ?_
    rw [Int.toNat_natCast, at_mid]
    refine ev_bind (mark_marks_l r [] a (by omega) (by omega) (by simp; omega)) ?_
    simp only [List.nil_append]
    rw [set_mid, w64s (by omega), step_mid, show p.length + 1 = (p ++ [markedM r a]).length by simp]
    exact hb
theorem mark_mm (s : List (List Mk)) (hl : s.length ≤ 1048576) (hr : ∀ r ∈ s, r.length ≤ 1048576) : ∃ (b : Int) (y : List (List Mk)), Ev (fun k => laws_markMarkSS.f k s 1) (b, y) ∧ 1 ≤ b := by
  unfold laws_markMarkSS.f
  exact mark_mm_l s [] 1 (by decide) (by omega) (by simp; omega) hr
end Go.Proofs.Ytbhmippoeimliaa.M

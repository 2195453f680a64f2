/- What the proof of this law needs besides: texts of ours, one behind the other. -/
import Derived.Test.YtgeokcjjkodpeaaWWords
import Derived.Test.YtgeokcjjkodpeaaWMore
import Derived.Deep.Slices
import Derived.Deep.Strs
import Derived.ChangeSame
import Derived.ProofKit
import Derived.Test.YtgeokcjjkodpeaaMBase
import Derived.Test.YtgeokcjjkodpeaaPx3
import Derived.Test.YtgeokcjjkodpeaaPx4
import Derived.Test.YtgeokcjjkodpeaaPx1
import Derived.Test.YtgeokcjjkodpeaaPx5
import Derived.Test.YtgeokcjjkodpeaaPx2
/- What comes in, opened by its type's shape: a slice of whatever can be opened reads as a list of what its elements read as. -/
set_option linter.unusedVariables false
set_option linter.unusedSimpArgs false
namespace Go.Proofs.Ytgeokcjjkodpeaa.Open
open Go Go.RowKit Go.Proofs.YtgeokcjjkodpeaaW.PrintWords Go.Deep Go.ChangeShapes Go.WideShapes

/-- Whatever reads at this type is what the kind tells. -/
def Opens (P : Program) (w : World) (e : TypeId) {α : Type} (d : Kd α) (wf : α → Prop) : Prop :=
  ∀ (H : Type) (enc : TypeId × Value → H) (n : Nat) (cs : List Value) (x : DataW H × List MemPlace), DataW.trod enc P w 0 (fun _ => true) true n e cs = some x → ∃ a, d.K w a cs ∧ wf a
section
variable {P : Program} {w : World} {t e : TypeId}
theorem opens_int {k : IntKind} (ht : P.underlying t = some (.int k)) : Opens P w t (Kd.int k) (fun a => (Lit.int k a).wf = true) := fun H enc n cs x h => by
  obtain ⟨m, rfl, _, hw⟩ := DataW.trod_int ht h
  exact ⟨m, rfl, hw⟩
theorem opens_bool (ht : P.underlying t = some .bool) : Opens P w t Kd.bool (fun _ => True) := fun H enc n cs x h => by
  obtain ⟨m, rfl, _⟩ := DataW.trod_bool ht h
  exact ⟨m, rfl, trivial⟩
theorem list_of {α : Type} (n : Nat) (Q : Nat → α → Prop) (h : ∀ i, i < n → ∃ a, Q i a) : ∃ l : List α, l.length = n ∧ ∀ i a, l[i]? = some a → Q i a := by
  induction n with
  | zero => exact ⟨[], rfl, fun i a h => by simp at h⟩
  | succ n ih =>
    obtain ⟨l, hl, hq⟩ := ih fun i hi => h i (by omega)
    obtain ⟨a, ha⟩ := h n (by omega)
    refine ⟨l ++ [a], by simp [hl], fun i b hb => ?_⟩
    by_cases hi : i < n
    · rw [List.getElem?_append_left (by omega)] at hb
      exact hq i b hb
    · by_cases he : i = n
      · subst he
        rw [List.getElem?_append_right (by omega), hl, Nat.sub_self] at hb
        simp at hb
        exact hb ▸ ha
      · rw [List.getElem?_eq_none (by simp; omega)] at hb
        cases hb
theorem opens_slice {α : Type} {d : Kd α} {wf : α → Prop} (ht : P.underlying t = some (.slice e)) (hc : P.cellsOf e = d.sz) (he : Opens P w e d wf) :
    Opens P w t (Kd.slice e d) (fun l => l.length ≤ maxLen ∧ ∀ x ∈ l, wf x) := fun H enc n cs x h => by
  rcases open_slice ht h with ⟨rfl, _⟩ | ⟨a, len, cap, m, n', D, Pl, rfl, _, hl, hm, hmm, _, hx⟩
  · exact ⟨[], ⟨none, 0, rfl, Nat.le_refl _, rfl, Nat.zero_le _, fun h => absurd h (Nat.lt_irrefl _)⟩, Nat.zero_le _, fun x hx => by cases hx⟩
  · obtain ⟨l, hll, hq⟩ := list_of len (fun i p => (∃ c, c.length = d.sz ∧ d.K w p c ∧ ∀ j u, c[j]? = some u → w.cell? (a.add (i * d.sz + j)) = some u) ∧ wf p) fun i hi => by
      obtain ⟨cs', hcs, htr⟩ := hx i (by rw [hmm]; simp; omega)
      obtain ⟨p, hK, hw⟩ := he H enc n' cs' _ htr
      obtain ⟨_, hlen, hcell⟩ := World.cells?_some hcs
      refine ⟨p, ⟨cs', by omega, hK, fun j u hu => ?_⟩, hw⟩
      have hj : j < cs'.length := (List.getElem?_eq_some_iff.1 hu).1
      have := hcell j (by omega)
      rw [Go.Deep.add_add, hc] at this
      exact this.trans hu
    subst hll
    refine ⟨l, ⟨some a, cap, rfl, hl, rfl, by unfold maxLen at hm; omega, fun _ => ⟨a, rfl, fun j p hp => (hq j p hp).1⟩⟩, by omega, fun x hx => ?_⟩
    obtain ⟨j, hj, e⟩ := List.getElem_of_mem hx
    exact (hq j x (by rw [List.getElem?_eq_getElem hj, e])).2
/-- A slice that is a parameter. -/
theorem top_slice {α : Type} {d : Kd α} {wf : List α → Prop} {H : Type} {enc : TypeId × Value → H} {a : Option Addr} {len cap : Nat} {dd : DataW H} {pp : List MemPlace} (ho : Opens P w t (Kd.slice e d) wf)
    (h : DataW.Trod enc P w 0 (fun _ => true) true t (.slice a len cap) dd pp) : ∃ l : List α, len = l.length ∧ l.length ≤ cap ∧ d.C w a l.length l ∧ wf l := by
  obtain ⟨fuel, hf⟩ := h
  obtain ⟨l, ⟨A, c, hcs, hl, hC⟩, hw⟩ := ho H enc fuel _ _ hf
  have : Value.slice a len cap = Value.slice A l.length c := by simpa [Value.cells] using hcs
  injection this with h1 h2 h3
  subst h1
  subst h3
  exact ⟨l, h2, hl, hC, hw⟩
theorem opens_two {α β γ : Type} {d0 : Kd α} {d1 : Kd β} {d : Kd γ} {wf0 : α → Prop} {wf1 : β → Prop} {wf : γ → Prop} {f0 f1 : Field} (pair : α → β → γ) (ht : P.underlying t = some (.struct #[f0, f1])) (hc : P.cellsOf t = 2)
    (o0 : f0.offset = 0) (o1 : f1.offset = 1) (c0 : P.cellsOf f0.type = 1) (c1 : P.cellsOf f1.type = 1) (h0 : Opens P w f0.type d0 wf0) (h1 : Opens P w f1.type d1 wf1)
    (mk : ∀ a b x y, d0.K w a [x] → d1.K w b [y] → d.K w (pair a b) [x, y]) (hwf : ∀ a b, wf0 a → wf1 b → wf (pair a b)) : Opens P w t d wf := fun H enc n cs x h => by
  obtain ⟨y0, y1, m, _, hl, t0, t1⟩ := trod_struct2 ht h
  rw [o0, c0] at t0
  rw [o1, c1] at t1
  rw [hc] at hl
  match cs, hl with
  | [u, v], _ =>
    obtain ⟨a, ha, wa⟩ := h0 H enc m _ _ t0
    obtain ⟨b, hb, wb⟩ := h1 H enc m _ _ t1
    exact ⟨pair a b, mk a b u v ha hb, hwf a b wa wb⟩
theorem opens_three {α β γ δ : Type} {d0 : Kd α} {d1 : Kd β} {d2 : Kd γ} {d : Kd δ} {wf0 : α → Prop} {wf1 : β → Prop} {wf2 : γ → Prop} {wf : δ → Prop} {f0 f1 f2 : Field} (pair : α → β → γ → δ) (ht : P.underlying t = some (.struct #[f0, f1, f2])) (hc : P.cellsOf t = 3)
    (o0 : f0.offset = 0) (o1 : f1.offset = 1) (o2 : f2.offset = 2) (c0 : P.cellsOf f0.type = 1) (c1 : P.cellsOf f1.type = 1) (c2 : P.cellsOf f2.type = 1) (h0 : Opens P w f0.type d0 wf0) (h1 : Opens P w f1.type d1 wf1) (h2 : Opens P w f2.type d2 wf2)
    (mk : ∀ a b c x y z, d0.K w a [x] → d1.K w b [y] → d2.K w c [z] → d.K w (pair a b c) [x, y, z]) (hwf : ∀ a b c, wf0 a → wf1 b → wf2 c → wf (pair a b c)) : Opens P w t d wf := fun H enc n cs x h => by
  obtain ⟨y0, y1, y2, m, _, hl, t0, t1, t2⟩ := trod_struct3 ht h
  rw [o0, c0] at t0
  rw [o1, c1] at t1
  rw [o2, c2] at t2
  rw [hc] at hl
  match cs, hl with
  | [u, v, z], _ =>
    obtain ⟨a, ha, wa⟩ := h0 H enc m _ _ t0
    obtain ⟨b, hb, wb⟩ := h1 H enc m _ _ t1
    obtain ⟨c, hc, wc⟩ := h2 H enc m _ _ t2
    exact ⟨pair a b c, mk a b c u v z ha hb hc, hwf a b c wa wb wc⟩
end
end Go.Proofs.Ytgeokcjjkodpeaa.Open

/- Lists by their entries. -/
set_option linter.unusedVariables false
set_option linter.unusedSimpArgs false
namespace Go.Proofs.Ytgeokcjjkodpeaa.M
open Go Go.RowKit Go.Proofs.YtgeokcjjkodpeaaW.PrintWords
theorem getD_lt {α : Type} (l : List α) (d : α) (j : Nat) (h : j < l.length) : l.getD j d = l[j] := by
  rw [List.getD_eq_getElem?_getD, List.getElem?_eq_getElem h]
  rfl
theorem ext_getD {α : Type} (d : α) (x l : List α) (hl : x.length = l.length) (h : ∀ j, j < l.length → x.getD j d = l.getD j d) : x = l := by
  refine List.ext_getElem hl fun j h1 h2 => ?_
  have := h j h2
  rwa [getD_lt _ _ _ h1, getD_lt _ _ _ h2] at this
theorem set_getD {α : Type} (d : α) (x : List α) (i : Nat) (v : α) (hi : i < x.length) (j : Nat) : (x.set i v).getD j d = if j = i then v else x.getD j d := by
  by_cases e : j = i
  · subst e
    rw [if_pos rfl, List.getD_eq_getElem?_getD, List.getElem?_set_self hi]
    rfl
  · rw [if_neg e, List.getD_eq_getElem?_getD, List.getElem?_set_ne (Ne.symm e), ← List.getD_eq_getElem?_getD]
theorem getD_mem {α : Type} (l : List α) (d : α) (j : Nat) (h : j < l.length) : l.getD j d ∈ l := by
  rw [getD_lt l d j h]
  exact List.getElem_mem h
theorem getD_all {α : Type} (l : List α) (d : α) (P : α → Prop) (hd : P d) (h : ∀ x ∈ l, P x) (j : Nat) : P (l.getD j d) := by
  by_cases hj : j < l.length
  · exact h _ (getD_mem l d j hj)
  · rw [List.getD_eq_getElem?_getD, List.getElem?_eq_none (by omega)]
    exact hd
def castL (l : List Nat) : List Int := l.map fun w : Nat => (w : Int)
theorem castL_len (l : List Nat) : (castL l).length = l.length := by simp [castL]
theorem castL_getD (l : List Nat) (i : Nat) : (castL l).getD i 0 = ((l.getD i 0 : Nat) : Int) := by
  unfold castL
  by_cases h : i < l.length
  · rw [getD_lt _ _ _ (by simpa using h), getD_lt _ _ _ h, List.getElem_map]
  · rw [List.getD_eq_getElem?_getD, List.getElem?_eq_none (by simpa using h), List.getD_eq_getElem?_getD, List.getElem?_eq_none (by omega)]
    rfl
end Go.Proofs.Ytgeokcjjkodpeaa.M

/- The program's SyndromeOk and the reference's both tell whether a list of rows is a syndrome. -/
set_option linter.unusedVariables false
set_option linter.unusedSimpArgs false
namespace Go.Proofs.Ytgeokcjjkodpeaa.M
open Go Go.RowKit Go.Proofs.YtgeokcjjkodpeaaW.PrintWords Go.Proofs.Ytgeokcjjkodpeaa.P

theorem l1In (a b c : Int) : spec_l1In.f a b c = some (decide (b ≤ a ∧ a ≤ c)) := by
  unfold spec_l1In.f
  by_cases h : a ≥ b
  · rw [if_pos h]
    simp [h]
  · rw [if_neg h]
    simp
    intro h'
    omega
theorem rdL (s : List (List Int)) (i : Nat) : rd_L1 s (i : Int) = s.getD i [] := by simp [rd_L1]
theorem from_succ {P : Nat → Prop} {n j : Nat} (h0 : P j) (h : ∀ j', j + 1 ≤ j' → j' < n → P j') : ∀ j', j ≤ j' → j' < n → P j' := fun j' h1 h2 => by
  rcases Nat.eq_or_lt_of_le h1 with e | e
  · exact e ▸ h0
  · exact h j' e h2

def ent (s : List (List Int)) (i j : Nat) : Int := (s.getD i []).getD j 0
def RowOk (s : List (List Int)) (i : Nat) : Prop := (s.getD i []).length = s.length ∧ ent s i i = 0 ∧ ∀ j, j < s.length → ent s i j = 0 ∨ ent s i j = 1
def Small (s : List (List Int)) : Prop := 1 ≤ s.length ∧ s.length ≤ 5
def Syn (s : List (List Int)) : Prop := Small s ∧ ∀ i, i < s.length → RowOk s i
theorem rdE (s : List (List Int)) (i j : Nat) : rd (rd_L1 s (i : Int)) (j : Int) = ent s i j := by rw [rdL, rdN]; rfl

theorem spec_syn_l (s : List (List Int)) (hn : s.length < 4611686018427387904) : ∀ d i : Nat, i + d = s.length →
    Tells (fun k => spec_SyndromeOk.l0 k s (i : Int)) (Small s ∧ ∀ i', i ≤ i' → i' < s.length → RowOk s i') := by
  intro d
  induction d with
  | zero =>
    intro i hi
    refine Tells.step (fun k => by rw [spec_SyndromeOk.l0]) ?_
    refine Tells.neg (by omega) ?_
    refine Tells.bindc (l1In _ _ _) ?_
    refine Tells.dec ?_
    unfold Small
    constructor
    · intro h
      exact ⟨by omega, fun i' h1 h2 => by omega⟩
    · intro h
      omega
  | succ d ih =>
    intro i hi
    have inner : ∀ e j : Nat, j + e = s.length → (s.getD i []).length = s.length →
        Tells (fun k => spec_SyndromeOk.l1 k s (i : Int) (j : Int)) ((∀ j', j ≤ j' → j' < s.length → (ent s i j' = 0 ∨ ent s i j' = 1) ∧ (j' = i → ent s i j' = 0)) ∧ Small s ∧ ∀ i', i + 1 ≤ i' → i' < s.length → RowOk s i') := by
      intro e
      induction e with
      | zero =>
        intro j hj hl
        refine Tells.step (fun k => by rw [spec_SyndromeOk.l1]) ?_
        refine Tells.neg (by omega) ?_
        rw [w64s (by omega)]
        exact (ih (i + 1) (by omega)).iff ⟨fun h => ⟨fun j' h1 h2 => by omega, h⟩, fun h => h.2⟩
      | succ e ihe =>
        intro j hj hl
        refine Tells.step (fun k => by rw [spec_SyndromeOk.l1]) ?_
        rw [rdE]
        refine Tells.pos (by omega) ?_
        refine Tells.pos (by omega) ?_
        refine Tells.pos (by omega) ?_
        refine Tells.pos (by omega) ?_
        refine Tells.pos (by rw [rdL]; omega) ?_
        refine Tells.bindc (l1In _ _ _) ?_
        refine Tells.ite (fun hb => ?_) (fun hb => Tells.no fun h => hb ?_)
        · have hb : 0 ≤ ent s i j ∧ ent s i j ≤ 1 := of_decide_eq_true hb
          have go : (j = i → ent s i j = 0) → Tells (fun k => spec_SyndromeOk.l1 k s (i : Int) (wrap64 ((j : Int) + 1))) ((∀ j', j ≤ j' → j' < s.length → (ent s i j' = 0 ∨ ent s i j' = 1) ∧ (j' = i → ent s i j' = 0)) ∧ Small s ∧ ∀ i', i + 1 ≤ i' → i' < s.length → RowOk s i') := fun hz => by
            rw [w64s (by omega)]
            exact (ihe (j + 1) (by omega) hl).iff ⟨fun h => ⟨from_succ ⟨by omega, hz⟩ h.1, h.2⟩, fun h => ⟨fun j' h1 h2 => h.1 j' (by omega) h2, h.2⟩⟩
          refine Tells.ite (fun e => ?_) (fun e => go fun e' => absurd (by omega) e)
          refine Tells.ite (fun z => go fun _ => z) (fun z => Tells.no fun h => z ((h.1 j (Nat.le_refl _) (by omega)).2 (by omega)))
        · have := (h.1 j (Nat.le_refl _) (by omega)).1
          exact decide_eq_true (by omega)
    refine Tells.step (fun k => by rw [spec_SyndromeOk.l0]) ?_
    refine Tells.pos (by omega) ?_
    refine Tells.pos (by omega) ?_
    rw [rdL]
    refine Tells.ite (fun hl => ?_) (fun hl => Tells.no fun h => hl (by have := (h.2 i (Nat.le_refl _) (by omega)).1; omega))
    have hl : (s.getD i []).length = s.length := by omega
    refine (inner s.length 0 (by omega) hl).iff ⟨fun h => ⟨h.2.1, from_succ ⟨hl, ((h.1 i (by omega) (by omega)).2 rfl), fun j hj => (h.1 j (by omega) hj).1⟩ h.2.2⟩, fun h => ⟨fun j' _ h2 => ?_, h.1, fun i' h1 h2 => h.2 i' (by omega) h2⟩⟩
    obtain ⟨_, h3, h4⟩ := h.2 i (Nat.le_refl _) (by omega)
    exact ⟨h4 j' h2, fun e => e ▸ h3⟩
theorem spec_syn (s : List (List Int)) (hn : s.length < 4611686018427387904) : Tells (fun k => spec_SyndromeOk.f k s) (Syn s) :=
  Tells.iff (spec_syn_l s hn s.length 0 (by omega)) ⟨fun h => ⟨h.1, fun i hi => h.2 i (by omega) hi⟩, fun h => ⟨h.1, fun i _ hi => h.2 i hi⟩⟩

theorem impl_syn_l (s : List (List Int)) (hn : s.length < 4611686018427387904) : ∀ d i : Nat, i + d = s.length →
    Tells (fun k => impl_SyndromeOk.l0 k s s (s.length : Int) (i : Int)) (Small s ∧ ∀ i', i ≤ i' → i' < s.length → RowOk s i') := by
  intro d
  induction d with
  | zero =>
    intro i hi
    refine Tells.step (fun k => by rw [impl_SyndromeOk.l0]) ?_
    refine Tells.neg (by omega) ?_
    have go : (Small s ∧ ∀ i', i ≤ i' → i' < s.length → RowOk s i') ↔ 1 ≤ s.length ∧ s.length ≤ 5 := ⟨fun h => h.1, fun h => ⟨h, fun i' h1 h2 => by omega⟩⟩
    refine Tells.ite (fun h => ?_) (fun h => Tells.no fun h' => h (by have := go.1 h'; omega))
    exact Tells.dec ⟨fun h' => go.2 (by omega), fun h' => by have := go.1 h'; omega⟩
  | succ d ih =>
    intro i hi
    have inner : ∀ e j : Nat, j + e = s.length → (s.getD i []).length = s.length →
        Tells (fun k => impl_SyndromeOk.l1 k s s (s.length : Int) (i : Int) (s.getD i []) ((s.getD i []).length : Int) (j : Int)) ((∀ j', j ≤ j' → j' < s.length → (ent s i j' = 0 ∨ ent s i j' = 1)) ∧ Small s ∧ ∀ i', i + 1 ≤ i' → i' < s.length → RowOk s i') := by
      intro e
      induction e with
      | zero =>
        intro j hj hl
        refine Tells.step (fun k => by rw [impl_SyndromeOk.l1]) ?_
        refine Tells.neg (by omega) ?_
        rw [w64s (by omega)]
        exact (ih (i + 1) (by omega)).iff ⟨fun h => ⟨fun j' h1 h2 => by omega, h⟩, fun h => h.2⟩
      | succ e ihe =>
        intro j hj hl
        refine Tells.step (fun k => by rw [impl_SyndromeOk.l1]) ?_
        rw [rdN, show (s.getD i []).getD j 0 = ent s i j from rfl]
        refine Tells.pos (by omega) ?_
        refine Tells.pos (by omega) ?_
        refine Tells.pos (by omega) ?_
        have go : (ent s i j = 0 ∨ ent s i j = 1) → Tells (fun k => impl_SyndromeOk.l1 k s s (s.length : Int) (i : Int) (s.getD i []) ((s.getD i []).length : Int) (wrap64 ((j : Int) + 1))) ((∀ j', j ≤ j' → j' < s.length → (ent s i j' = 0 ∨ ent s i j' = 1)) ∧ Small s ∧ ∀ i', i + 1 ≤ i' → i' < s.length → RowOk s i') := fun hz => by
          rw [w64s (by omega)]
          exact (ihe (j + 1) (by omega) hl).iff ⟨fun h => ⟨from_succ hz h.1, h.2⟩, fun h => ⟨fun j' h1 h2 => h.1 j' (by omega) h2, h.2⟩⟩
        refine Tells.ite (fun z => go (.inl z)) (fun z => ?_)
        refine Tells.ite (fun o => go (.inr o)) (fun o => Tells.no fun h => ?_)
        rcases h.1 j (Nat.le_refl _) (by omega) with h' | h'
        · exact z h'
        · exact o h'
    have hj1 : ∀ b : Bool, (b = true → ¬ RowOk s i) → (b = false → (s.getD i []).length = s.length ∧ ent s i i = 0) →
        Tells (fun k => impl_SyndromeOk.j1 k s (s.getD i []) s (s.length : Int) (i : Int) b) (Small s ∧ ∀ i', i ≤ i' → i' < s.length → RowOk s i') := by
      intro b hb1 hb0
      refine Tells.step (fun k => by rw [impl_SyndromeOk.j1]) ?_
      refine Tells.ite (fun h => Tells.no fun h' => hb1 h (h'.2 i (Nat.le_refl _) (by omega))) (fun h => ?_)
      obtain ⟨hl, h0⟩ := hb0 (by simpa using h)
      exact (inner s.length 0 (by omega) hl).iff ⟨fun h => ⟨h.2.1, from_succ ⟨hl, h0, fun j hj => h.1 j (by omega) hj⟩ h.2.2⟩, fun h => ⟨fun j' _ h2 => (h.2 i (Nat.le_refl _) (by omega)).2.2 j' h2, h.1, fun i' h1 h2 => h.2 i' (by omega) h2⟩⟩
    refine Tells.step (fun k => by rw [impl_SyndromeOk.l0]) ?_
    rw [rdE, rdL]
    refine Tells.pos (by omega) ?_
    refine Tells.pos (by omega) ?_
    refine Tells.pos (by omega) ?_
    refine Tells.ite (fun hl => ?_) (fun hl => hj1 true (fun _ h => hl (by have := h.1; omega)) (fun h => by cases h))
    refine Tells.pos (by omega) ?_
    refine hj1 _ (fun h h' => ?_) (fun h => ⟨by omega, ?_⟩)
    · simp [h'.2.1] at h
    · simpa using h
theorem impl_syn (s : List (List Int)) (hn : s.length < 4611686018427387904) : Tells (fun k => impl_SyndromeOk.f k s) (Syn s) :=
  Tells.iff (impl_syn_l s hn s.length 0 (by omega)) ⟨fun h => ⟨h.1, fun i hi => h.2 i (by omega) hi⟩, fun h => ⟨h.1, fun i _ hi => h.2 i hi⟩⟩

open Classical in
/-- Is it a syndrome? -/
noncomputable def synB (s : List (List Int)) : Bool := decide (Syn s)
theorem synB_iff (s : List (List Int)) : synB s = true ↔ Syn s := by simp [synB]
theorem spec_synE (s : List (List Int)) (hn : s.length < 4611686018427387904) : Ev (fun k => spec_SyndromeOk.f k s) (synB s) := (spec_syn s hn).ev (synB_iff s)
theorem impl_synE (s : List (List Int)) (hn : s.length < 4611686018427387904) : Ev (fun k => impl_SyndromeOk.f k s) (synB s) := (impl_syn s hn).ev (synB_iff s)
end Go.Proofs.Ytgeokcjjkodpeaa.M

/- Rows of rows of whole numbers, compared. -/
set_option linter.unusedVariables false
set_option linter.unusedSimpArgs false
namespace Go.Proofs.Ytgeokcjjkodpeaa.M
open Go Go.RowKit Go.Proofs.YtgeokcjjkodpeaaW.PrintWords Go.Proofs.Ytgeokcjjkodpeaa.P
theorem eq_int_l (l : List Int) (hn : l.length ≤ 1048576) : ∀ d i, i + d = l.length → Ev (fun k => laws_eqIntS.l0 k l l (i : Int)) true := by
  intro d
  induction d with
  | zero =>
    intro i hi
    refine Ev.step (fun k => by rw [laws_eqIntS.l0]) ?_
    exact ev_neg (by omega) (ev_ret rfl)
  | succ d ih =>
    intro i hi
    refine Ev.step (fun k => by rw [laws_eqIntS.l0]) ?_
    rw [w64s (by omega)]
    refine ev_pos (by omega) ?_
    refine ev_pos (by omega) ?_
    refine ev_pos (by omega) ?_
    exact ev_pos rfl (ih (i + 1) (by omega))
theorem eq_int (l : List Int) (hn : l.length ≤ 1048576) : Ev (fun k => laws_eqIntS.f k l l) true := by
  unfold laws_eqIntS.f
  exact ev_pos rfl (eq_int_l l hn l.length 0 (by omega))
theorem eq_rows_l (l : List (List Int)) (hn : l.length ≤ 1048576) (hr : ∀ j, (l.getD j []).length ≤ 1048576) : ∀ d i, i + d = l.length → Ev (fun k => laws_eqIntSS.l0 k l l (i : Int)) true := by
  intro d
  induction d with
  | zero =>
    intro i hi
    refine Ev.step (fun k => by rw [laws_eqIntSS.l0]) ?_
    exact ev_neg (by omega) (ev_ret rfl)
  | succ d ih =>
    intro i hi
    refine Ev.step (fun k => by rw [laws_eqIntSS.l0]) ?_
    rw [w64s (by omega), rdL]
    refine ev_pos (by omega) ?_
    refine ev_pos (by omega) ?_
    refine ev_pos (by omega) ?_
    refine ev_bind (eq_int _ (hr i)) ?_
    exact ev_pos rfl (ih (i + 1) (by omega))
theorem eq_rows (l : List (List Int)) (hn : l.length ≤ 1048576) (hr : ∀ j, (l.getD j []).length ≤ 1048576) : Ev (fun k => laws_eqIntSS.f k l l) true := by
  unfold laws_eqIntSS.f
  exact ev_pos rfl (eq_rows_l l hn hr l.length 0 (by omega))
end Go.Proofs.Ytgeokcjjkodpeaa.M

/- The exact laws' helpers over rows of rows: they measure, copy and compare. -/
set_option linter.unusedVariables false
set_option linter.unusedSimpArgs false
namespace Go.Proofs.Ytgeokcjjkodpeaa.M
open Go Go.RowKit Go.Proofs.YtgeokcjjkodpeaaW.PrintWords Go.Proofs.Ytgeokcjjkodpeaa.P
theorem sz_int (l : List Int) (a : Int) (h0 : 0 ≤ a) (ha : a ≤ 1048576) (hl : l.length ≤ 9223372036854775807) : ∃ r, laws_szIntS.f l a = some r ∧ r ≤ 1048576 ∧ (0 ≤ r → l.length ≤ 1048576) := by
  unfold laws_szIntS.f
  rw [w64 (by omega) (by omega)]
  by_cases h : a - (l.length : Int) < 0
  · exact ⟨-1, if_pos h, by decide, fun h => absurd h (by decide)⟩
  · exact ⟨_, if_neg h, by omega, fun _ => by omega⟩
theorem sz_rows_l (s : List (List Int)) (hl : s.length ≤ 1048576) (hr : ∀ i, (s.getD i []).length ≤ 9223372036854775807) : ∀ d i (a : Int), i + d = s.length → 0 ≤ a → a ≤ 1048576 →
    ∃ r, Ev (fun k => laws_szIntSS.l0 k s a (i : Int)) r ∧ (0 ≤ r → ∀ j, i ≤ j → (s.getD j []).length ≤ 1048576) := by
  intro d
  induction d with
  | zero =>
    intro i a hi h0 ha
    refine ⟨a, Ev.step (fun k => by rw [laws_szIntSS.l0]) (ev_neg (by omega) (ev_ret rfl)), fun _ j hj => ?_⟩
    rw [List.getD_eq_getElem?_getD, List.getElem?_eq_none (by omega)]
    exact Nat.zero_le _
  | succ d ih =>
    intro i a hi h0 ha
    obtain ⟨r, hr1, hr2, hr3⟩ := sz_int (s.getD i []) a h0 ha (hr i)
    by_cases h : r < 0
    · refine ⟨-1, ?_, fun h => absurd h (by decide)⟩
      refine Ev.step (fun k => by rw [laws_szIntSS.l0]) ?_
      refine ev_pos (by omega) ?_
      refine ev_pos (by omega) ?_
      rw [rdL]
      refine ev_bindc hr1 ?_
      exact ev_pos h (ev_ret rfl)
    · obtain ⟨q, hq, hj⟩ := ih (i + 1) r (by omega) (by omega) hr2
      refine ⟨q, ?_, fun h' j hj' => ?_⟩
      · refine Ev.step (fun k => by rw [laws_szIntSS.l0]) ?_
        refine ev_pos (by omega) ?_
        refine ev_pos (by omega) ?_
        rw [rdL, w64s (by omega)]
        refine ev_bindc hr1 ?_
        exact ev_neg h hq
      · by_cases e : j = i
        · exact e ▸ hr3 (by omega)
        · exact hj h' j (by omega)
/-- Measured: either the law returns at once, or all is small. -/
theorem sz_rows (s : List (List Int)) (hl : s.length ≤ 9223372036854775807) (hr : ∀ i, (s.getD i []).length ≤ 9223372036854775807) :
    ∃ r, Ev (fun k => laws_szIntSS.f k s 1048576) r ∧ (0 ≤ r → s.length ≤ 1048576 ∧ ∀ j, (s.getD j []).length ≤ 1048576) := by
  unfold laws_szIntSS.f
  rw [w64 (by omega) (by omega)]
  by_cases h : 1048576 - (s.length : Int) < 0
  · exact ⟨-1, ev_pos h (ev_ret rfl), fun h => absurd h (by decide)⟩
  · obtain ⟨r, h1, h2⟩ := sz_rows_l s (by omega) hr s.length 0 (1048576 - (s.length : Int)) (by omega) (by omega) (by omega)
    exact ⟨r, ev_neg h h1, fun h' => ⟨by omega, fun j => h2 h' j (Nat.zero_le _)⟩⟩
theorem to_int_l (l : List Int) (hn : l.length ≤ 1048576) : ∀ d i (x : List Int), i + d = l.length → x.length = l.length → (∀ j, j < i → x.getD j 0 = l.getD j 0) → Ev (fun k => laws_toIntS.l0 k l x (i : Int)) l := by
  intro d
  induction d with
  | zero =>
    intro i x hi hx h
    refine Ev.step (fun k => by rw [laws_toIntS.l0]) ?_
    exact ev_neg (by omega) (ev_ret (ext_getD 0 x l hx fun j hj => h j (by omega)))
  | succ d ih =>
    intro i x hi hx h
    refine Ev.step (fun k => by rw [laws_toIntS.l0]) ?_
    rw [w64s (by omega), rdN, Int.toNat_natCast]
    refine ev_pos (by omega) ?_
    refine ev_pos (by omega) ?_
    refine ev_pos (by omega) ?_
    refine ih (i + 1) _ (by omega) (by simpa using hx) fun j hj => ?_
    rw [set_getD 0 x i _ (by omega)]
    split
    · rename_i e
      rw [e]
    · exact h j (by omega)
theorem to_int (l : List Int) (hn : l.length ≤ 1048576) : Ev (fun k => laws_toIntS.f k l) l := by
  unfold laws_toIntS.f
  rw [Int.toNat_natCast]
  refine ev_pos (by omega) ?_
  refine ev_pos (by omega) ?_
  exact to_int_l l hn l.length 0 _ (by omega) (by simp) fun j hj => by omega
theorem to_rows_l (l : List (List Int)) (hn : l.length ≤ 1048576) (hr : ∀ j, (l.getD j []).length ≤ 1048576) : ∀ d i (x : List (List Int)), i + d = l.length → x.length = l.length → (∀ j, j < i → x.getD j [] = l.getD j []) → Ev (fun k => laws_toIntSS.l0 k l x (i : Int)) l := by
  intro d
  induction d with
  | zero =>
    intro i x hi hx h
    refine Ev.step (fun k => by rw [laws_toIntSS.l0]) ?_
    exact ev_neg (by omega) (ev_ret (ext_getD [] x l hx fun j hj => h j (by omega)))
  | succ d ih =>
    intro i x hi hx h
    refine Ev.step (fun k => by rw [laws_toIntSS.l0]) ?_
    rw [w64s (by omega), rdL, Int.toNat_natCast]
    refine ev_pos (by omega) ?_
    refine ev_pos (by omega) ?_
    refine ev_bind (to_int _ (hr i)) ?_
    refine ev_pos (by omega) ?_
    refine ih (i + 1) _ (by omega) (by simpa using hx) fun j hj => ?_
    rw [set_getD [] x i _ (by omega)]
    split
    · rename_i e
      rw [e]
    · exact h j (by omega)
theorem to_rows (l : List (List Int)) (hn : l.length ≤ 1048576) (hr : ∀ j, (l.getD j []).length ≤ 1048576) : Ev (fun k => laws_toIntSS.f k l) l := by
  unfold laws_toIntSS.f
  rw [Int.toNat_natCast]
  refine ev_pos (by omega) ?_
  refine ev_pos (by omega) ?_
  exact to_rows_l l hn hr l.length 0 _ (by omega) (by simp) fun j hj => by omega
/-- What comes in, measured, its bounds. -/
theorem came_in (l : List (List Int)) (h : l.length ≤ maxLen ∧ ∀ y0 ∈ l, y0.length ≤ maxLen ∧ ∀ y1 ∈ y0, (Lit.int .i64 y1).wf = true) : l.length ≤ 9223372036854775807 ∧ ∀ i, (l.getD i []).length ≤ 9223372036854775807 :=
  ⟨h.1, fun i => getD_all l [] (fun y => y.length ≤ 9223372036854775807) (by simp) (fun x hx => (h.2 x hx).1) i⟩
end Go.Proofs.Ytgeokcjjkodpeaa.M

/- FitsFaults of the program, and what the reference asks of a set -/
set_option linter.unusedVariables false
set_option linter.unusedSimpArgs false
namespace Go.Proofs.Ytgeokcjjkodpeaa.M
open Go Go.RowKit Go.Proofs.YtgeokcjjkodpeaaW.PrintWords Go.Proofs.Ytgeokcjjkodpeaa.P
/-- What unit i says from unit j on fits the set m. -/
def FitRow (s : List (List Int)) (m i : Nat) : Prop := bitN m i = 0 → ∀ j, j < s.length → j ≠ i → ent s i j = (bitN m j : Int)
def Fits (s : List (List Int)) (m : Nat) : Prop := ∀ i, i < s.length → FitRow s m i

theorem impl_fits_l (s : List (List Int)) (hs : Syn s) (m : Nat) (hm : m < 9223372036854775808) : ∀ d i : Nat, i + d = s.length →
    Tells (fun k => impl_FitsFaults.l0 k (m : Int) s (s.length : Int) (i : Int)) (∀ i', i ≤ i' → i' < s.length → FitRow s m i') := by
  have h5 := hs.1.2
  intro d
  induction d with
  | zero =>
    intro i hi
    refine Tells.step (fun k => by rw [impl_FitsFaults.l0]) ?_
    refine Tells.neg (by omega) ?_
    exact Tells.yes fun i' h1 h2 => by omega
  | succ d ih =>
    intro i hi
    have hl := (hs.2 i (by omega)).1
    have inner : ∀ e j : Nat, j + e = s.length →
        Tells (fun k => impl_FitsFaults.l1 k (m : Int) (i : Int) s (s.length : Int) (i : Int) (s.getD i []) ((s.getD i []).length : Int) (j : Int)) ((∀ j', j ≤ j' → j' < s.length → bitN m i = 0 → j' ≠ i → ent s i j' = (bitN m j' : Int)) ∧ ∀ i', i + 1 ≤ i' → i' < s.length → FitRow s m i') := by
      intro e
      induction e with
      | zero =>
        intro j hj
        refine Tells.step (fun k => by rw [impl_FitsFaults.l1]) ?_
        refine Tells.neg (by omega) ?_
        rw [w64s (by omega)]
        exact (ih (i + 1) (by omega)).iff ⟨fun h => ⟨fun j' h1 h2 => by omega, h⟩, fun h => h.2⟩
      | succ e ihe =>
        intro j hj
        refine Tells.step (fun k => by rw [impl_FitsFaults.l1]) ?_
        rw [rdN, show (s.getD i []).getD j 0 = ent s i j from rfl, shr_and1 m i (by omega) hm, shr_and1 m j (by omega) hm]
        refine Tells.pos (by omega) ?_
        refine Tells.pos (by omega) ?_
        refine Tells.pos (by omega) ?_
        refine Tells.pos (by omega) ?_
        have go : (bitN m i = 0 → j ≠ i → ent s i j = (bitN m j : Int)) → Tells (fun k => impl_FitsFaults.l1 k (m : Int) (i : Int) s (s.length : Int) (i : Int) (s.getD i []) ((s.getD i []).length : Int) (wrap64 ((j : Int) + 1))) ((∀ j', j ≤ j' → j' < s.length → bitN m i = 0 → j' ≠ i → ent s i j' = (bitN m j' : Int)) ∧ ∀ i', i + 1 ≤ i' → i' < s.length → FitRow s m i') := fun hz => by
          rw [w64s (by omega)]
          exact (ihe (j + 1) (by omega)).iff ⟨fun h => ⟨from_succ hz h.1, h.2⟩, fun h => ⟨fun j' h1 h2 => h.1 j' (by omega) h2, h.2⟩⟩
        refine Tells.ite (fun z => ?_) (fun z => go fun z' => absurd (by omega) z)
        refine Tells.ite (fun e => go fun _ e' => absurd (by omega) e') (fun e => ?_)
        refine Tells.ite (fun o => go fun _ _ => o) (fun o => Tells.no fun h => o (h.1 j (Nat.le_refl _) (by omega) (by omega) (by omega)))
    refine Tells.step (fun k => by rw [impl_FitsFaults.l0]) ?_
    rw [rdL]
    refine Tells.pos (by omega) ?_
    refine Tells.pos (by omega) ?_
    refine Tells.pos (by omega) ?_
    exact (inner s.length 0 (by omega)).iff ⟨fun h => from_succ (fun z j hj hne => h.1 j (by omega) hj z hne) h.2, fun h => ⟨fun j' _ h2 z hne => h i (Nat.le_refl _) (by omega) z j' h2 hne, fun i' h1 h2 => h i' (by omega) h2⟩⟩

theorem spec_fits_l (s : List (List Int)) (hs : Syn s) (m : Nat) (hm : m < 9223372036854775808) : ∀ d i : Nat, i + d = s.length →
    Tells (fun k => spec_l10Fits.l0 k s (m : Int) (i : Int)) (∀ i', i ≤ i' → i' < s.length → FitRow s m i') := by
  have h5 := hs.1.2
  intro d
  induction d with
  | zero =>
    intro i hi
    refine Tells.step (fun k => by rw [spec_l10Fits.l0]) ?_
    refine Tells.neg (by omega) ?_
    exact Tells.yes fun i' h1 h2 => by omega
  | succ d ih =>
    intro i hi
    have hl := (hs.2 i (by omega)).1
    have inner : ∀ e j : Nat, j + e = s.length →
        Tells (fun k => spec_l10Fits.l1 k s (m : Int) (i : Int) (j : Int)) ((∀ j', j ≤ j' → j' < s.length → bitN m i = 0 → j' ≠ i → ent s i j' = (bitN m j' : Int)) ∧ ∀ i', i + 1 ≤ i' → i' < s.length → FitRow s m i') := by
      intro e
      induction e with
      | zero =>
        intro j hj
        refine Tells.step (fun k => by rw [spec_l10Fits.l1]) ?_
        refine Tells.neg (by omega) ?_
        refine Tells.step (fun k => by rw [spec_l10Fits.j2]) ?_
        refine Tells.neg (by decide) ?_
        rw [w64s (by omega)]
        exact (ih (i + 1) (by omega)).iff ⟨fun h => ⟨fun j' h1 h2 => by omega, h⟩, fun h => h.2⟩
      | succ e ihe =>
        intro j hj
        refine Tells.step (fun k => by rw [spec_l10Fits.l1]) ?_
        rw [shr_tmod2 m i (by omega)]
        refine Tells.pos (by omega) ?_
        refine Tells.pos (by omega) ?_
        refine Tells.step (fun k => by rw [spec_l10Fits.j2]) ?_
        rw [rdE, rdL, shr_tmod2 m j (by omega)]
        have go : (bitN m i = 0 → j ≠ i → ent s i j = (bitN m j : Int)) → Tells (fun k => spec_l10Fits.l1 k s (m : Int) (i : Int) (wrap64 ((j : Int) + 1))) ((∀ j', j ≤ j' → j' < s.length → bitN m i = 0 → j' ≠ i → ent s i j' = (bitN m j' : Int)) ∧ ∀ i', i + 1 ≤ i' → i' < s.length → FitRow s m i') := fun hz => by
          rw [w64s (by omega)]
          exact (ihe (j + 1) (by omega)).iff ⟨fun h => ⟨from_succ hz h.1, h.2⟩, fun h => ⟨fun j' h1 h2 => h.1 j' (by omega) h2, h.2⟩⟩
        refine Tells.ite (fun z => ?_) (fun z => ?_)
        · refine Tells.ite (fun e => go fun _ e' => absurd (by omega) e') (fun e => ?_)
          refine Tells.pos (by omega) ?_
          refine Tells.pos (by omega) ?_
          refine Tells.pos (by omega) ?_
          refine Tells.pos (by omega) ?_
          have z : bitN m i = 0 := by
            have := eq_of_beq z
            omega
          refine Tells.ite (fun o => go fun _ _ => o) (fun o => Tells.no fun h => o (h.1 j (Nat.le_refl _) (by omega) z (by omega)))
        · have z : ¬ bitN m i = 0 := fun z' => z (by rw [z']; rfl)
          rw [w64s (by omega)]
          exact (ih (i + 1) (by omega)).iff ⟨fun h => ⟨fun j' h1 h2 z' => absurd z' z, h⟩, fun h => h.2⟩
    refine Tells.step (fun k => by rw [spec_l10Fits.l0]) ?_
    refine Tells.pos (by omega) ?_
    exact (inner s.length 0 (by omega)).iff ⟨fun h => from_succ (fun z j hj hne => h.1 j (by omega) hj z hne) h.2, fun h => ⟨fun j' _ h2 z hne => h i (Nat.le_refl _) (by omega) z j' h2 hne, fun i' h1 h2 => h i' (by omega) h2⟩⟩
open Classical in
noncomputable def fitsB (s : List (List Int)) (m : Nat) : Bool := decide (Fits s m)
theorem fitsB_iff (s : List (List Int)) (m : Nat) : fitsB s m = true ↔ Fits s m := by simp [fitsB]
theorem spec_l10fitsE (s : List (List Int)) (hs : Syn s) (m : Nat) (hm : m < 9223372036854775808) : Ev (fun k => spec_l10Fits.f k s (m : Int)) (fitsB s m) :=
  Tells.ev (Tells.iff (spec_fits_l s hs m hm s.length 0 (by omega)) ⟨fun h i hi => h i (by omega) hi, fun h i _ hi => h i hi⟩) (fitsB_iff s m)
open Classical in
/-- FitsFaults, as both tell it. -/
noncomputable def fitsFB (s : List (List Int)) (set : Int) : Bool := decide (Syn s ∧ 0 ≤ set ∧ set < (pw s.length : Int) ∧ Fits s set.toNat)
theorem fitsFB_iff (s : List (List Int)) (set : Int) : fitsFB s set = true ↔ Syn s ∧ 0 ≤ set ∧ set < (pw s.length : Int) ∧ Fits s set.toNat := by simp [fitsFB]
theorem impl_fitsE (s : List (List Int)) (hn : s.length < 4611686018427387904) (set : Int) : Ev (fun k => impl_FitsFaults.f k s set) (fitsFB s set) := by
  unfold impl_FitsFaults.f
  refine Ev.bind (impl_synE s hn) ?_
  have no : ¬ (Syn s ∧ 0 ≤ set ∧ set < (pw s.length : Int) ∧ Fits s set.toNat) → Ev (fun n => impl_FitsFaults.j0 n s set true) (fitsFB s set) := fun h =>
    Tells.ev (Tells.step (fun k => by rw [impl_FitsFaults.j0]) (Tells.pos rfl (Tells.no h))) (fitsFB_iff s set)
  by_cases hs : Syn s
  · have h5 := hs.1.2
    have hp := pw5 h5
    refine ev_pos ((synB_iff s).2 hs) ?_
    by_cases h0 : set < 0
    · exact ev_pos h0 (no fun h => by omega)
    refine ev_neg h0 ?_
    rw [shl_nat s.length (by omega)]
    by_cases h1 : set ≥ (pw s.length : Int)
    · rw [decide_eq_true h1]
      exact no fun h => by omega
    rw [decide_eq_false h1]
    obtain ⟨m, rfl⟩ : ∃ m : Nat, set = (m : Int) := ⟨set.toNat, by omega⟩
    refine Ev.step (fun k => by rw [impl_FitsFaults.j0]) (ev_neg (by decide) ?_)
    refine Tells.ev (Tells.iff (impl_fits_l s hs m (by omega) s.length 0 (by omega)) ?_) (fitsFB_iff s _)
    exact ⟨fun h => ⟨hs, by omega, by omega, fun i hi => h i (by omega) hi⟩, fun h i _ hi => h.2.2.2 i hi⟩
  · refine ev_neg (fun h => hs ((synB_iff s).1 h)) (no fun h => hs h.1)
end Go.Proofs.Ytgeokcjjkodpeaa.M

/- FaultSets of both -/
set_option linter.unusedVariables false
set_option linter.unusedSimpArgs false
namespace Go.Proofs.Ytgeokcjjkodpeaa.M
open Go Go.RowKit Go.Proofs.YtgeokcjjkodpeaaW.PrintWords Go.Proofs.Ytgeokcjjkodpeaa.P
theorem spec_heads_l : ∀ n m acc : Nat, m < 2 ^ n → n ≤ 62 → acc + n ≤ 1000 → Ev (fun k => spec_l1Heads.l0 k (m : Int) (acc : Int)) ((acc + popN n m : Nat) : Int) := by
  intro n
  induction n with
  | zero =>
    intro m acc hm _ _
    obtain rfl : m = 0 := by simpa using hm
    refine Ev.step (fun k => by rw [spec_l1Heads.l0]) ?_
    exact ev_neg (by decide) (ev_ret rfl)
  | succ n ih =>
    intro m acc hm hn ha
    refine Ev.step (fun k => by rw [spec_l1Heads.l0]) ?_
    by_cases h : m = 0
    · subst h
      exact ev_neg (by decide) (ev_ret (by rw [popN_zero]; rfl))
    · refine ev_pos (by omega) ?_
      have hb : m < 9223372036854775808 := Nat.lt_of_lt_of_le hm (Nat.pow_le_pow_right (n := 2) (j := 63) (by decide) (by omega))
      rw [tmod2, tdiv2, w64 (by omega) (by omega), w64 (by omega) (by omega)]
      have := ih (m / 2) (acc + m % 2) (by rw [Nat.pow_succ] at hm; omega) (by omega) (by omega)
      rw [popN, ← Nat.add_assoc]
      exact_mod_cast this
theorem spec_headsE (n m : Nat) (hm : m < 2 ^ n) (hn : n ≤ 62) : Ev (fun k => spec_l1Heads.f k (m : Int)) ((popN n m : Nat) : Int) := by
  have := spec_heads_l n m 0 hm hn (by omega)
  rw [Nat.zero_add] at this
  exact this
theorem onesE : ∀ m : Nat, m < 32 → bits_OnesCount.f (IntKind.u64.wrap (m : Int)) = some ((popN 5 m : Nat) : Int) := by decide +kernel

/-- m is a set of at most so many units that fits. -/
noncomputable def good (s : List (List Int)) (most : Int) (m : Nat) : Bool := decide (((popN 5 m : Nat) : Int) ≤ most) && fitsB s m
noncomputable def setsFrom (s : List (List Int)) (most : Int) (i d : Nat) : List Int := ((List.range' i d).filter (good s most)).map (fun m : Nat => (m : Int))
theorem setsFrom_succ (s : List (List Int)) (most : Int) (i d : Nat) : setsFrom s most i (d + 1) = if good s most i = true then (i : Int) :: setsFrom s most (i + 1) d else setsFrom s most (i + 1) d := by
  unfold setsFrom
  rw [List.range'_succ, List.filter_cons]
  split <;> rfl
theorem fitsFB_small (s : List (List Int)) (hs : Syn s) (i : Nat) (hi : i < pw s.length) : fitsFB s (i : Int) = fitsB s i := by
  rw [Bool.eq_iff_iff, fitsFB_iff, fitsB_iff]
  exact ⟨fun h => h.2.2.2, fun h => ⟨hs, by omega, by omega, h⟩⟩
theorem impl_sets_l (s : List (List Int)) (hs : Syn s) (most : Int) : ∀ d i (acc : List Int), i + d = pw s.length → acc.length ≤ i →
    Ev (fun k => impl_FaultSets.l0 k s most acc (pw s.length : Int) (i : Int)) (acc ++ setsFrom s most i d) := by
  have h5 := hs.1.2
  have hp := pw5 h5
  intro d
  induction d with
  | zero =>
    intro i acc hi ha
    refine Ev.step (fun k => by rw [impl_FaultSets.l0]) ?_
    exact ev_neg (by omega) (ev_ret (by simp [setsFrom]))
  | succ d ih =>
    intro i acc hi ha
    refine Ev.step (fun k => by rw [impl_FaultSets.l0]) (ev_pos (by omega) ?_)
    refine ev_bindc (onesE i (by omega)) ?_
    rw [w64s (by omega), setsFrom_succ]
    by_cases h1 : ((popN 5 i : Nat) : Int) ≤ most
    · refine ev_pos h1 (Ev.bind (impl_fitsE s (by omega) (i : Int)) ?_)
      rw [fitsFB_small s hs i (by omega)]
      by_cases h2 : fitsB s i = true
      · refine ev_pos h2 (ev_pos (by omega) ?_)
        rw [if_pos (by simp [good, h1, h2])]
        refine ev_eq (ih (i + 1) (acc ++ [(i : Int)]) (by omega) (by simp; omega)) (by simp)
      · refine ev_neg h2 ?_
        rw [if_neg (by simp [good, h2])]
        exact ih (i + 1) acc (by omega) (by omega)
    · refine ev_neg h1 ?_
      rw [if_neg (by simp [good, h1])]
      exact ih (i + 1) acc (by omega) (by omega)
open Classical in
/-- FaultSets, as both tell it. -/
noncomputable def setsF (s : List (List Int)) (most : Int) : List Int := if Syn s then setsFrom s most 0 (pw s.length) else []
theorem sets_neg (s : List (List Int)) (most : Int) (h : most < 0) : setsF s most = [] := by
  unfold setsF
  split
  · unfold setsFrom
    rw [List.map_eq_nil_iff, List.filter_eq_nil_iff]
    intro m _
    have : ¬ (((popN 5 m : Nat) : Int) ≤ most) := by omega
    simp [good, this]
  · rfl
theorem impl_setsE (s : List (List Int)) (hn : s.length < 4611686018427387904) (most : Int) : Ev (fun k => impl_FaultSets.f k s most) (setsF s most) := by
  unfold impl_FaultSets.f
  refine Ev.bind (impl_synE s hn) ?_
  by_cases hs : Syn s
  · refine ev_pos ((synB_iff s).2 hs) ?_
    by_cases h : most < 0
    · rw [decide_eq_true h, sets_neg s most h]
      refine Ev.step (fun k => by rw [impl_FaultSets.j0]) ?_
      exact ev_pos rfl (ev_ret rfl)
    · rw [decide_eq_false h]
      refine Ev.step (fun k => by rw [impl_FaultSets.j0]) (ev_neg (by decide) ?_)
      have h5 := hs.1.2
      rw [shl_nat s.length (by omega)]
      refine ev_eq (impl_sets_l s hs most (pw s.length) 0 [] (by omega) (by simp)) ?_
      unfold setsF
      rw [if_pos hs]
      rfl
  · refine ev_neg (fun h => hs ((synB_iff s).1 h)) ?_
    refine Ev.step (fun k => by rw [impl_FaultSets.j0]) (ev_pos rfl (ev_ret ?_))
    unfold setsF
    rw [if_neg hs]
theorem spec_sets_l (s : List (List Int)) (hs : Syn s) (most : Int) : ∀ d i (acc : List Int), i + d = pw s.length → acc.length ≤ i →
    Ev (fun k => spec_FaultSets.l0 k s most acc (i : Int)) (acc ++ setsFrom s most i d) := by
  have h5 := hs.1.2
  have hp := pw5 h5
  intro d
  induction d with
  | zero =>
    intro i acc hi ha
    refine Ev.step (fun k => by rw [spec_FaultSets.l0]) (Ev.bind (spec_synE s (by omega)) (ev_pos ((synB_iff s).2 hs) ?_))
    rw [shl_nat s.length (by omega), decide_eq_false (by omega)]
    refine Ev.step (fun k => by rw [spec_FaultSets.j1]) ?_
    exact ev_neg (by decide) (ev_ret (by simp [setsFrom]))
  | succ d ih =>
    intro i acc hi ha
    refine Ev.step (fun k => by rw [spec_FaultSets.l0]) (Ev.bind (spec_synE s (by omega)) (ev_pos ((synB_iff s).2 hs) ?_))
    rw [shl_nat s.length (by omega), decide_eq_true (by omega)]
    refine Ev.step (fun k => by rw [spec_FaultSets.j1]) (ev_pos rfl ?_)
    refine Ev.bind (spec_headsE 5 i (by omega) (by omega)) ?_
    rw [w64s (by omega), setsFrom_succ]
    by_cases h1 : ((popN 5 i : Nat) : Int) ≤ most
    · refine ev_pos h1 (Ev.bind (spec_l10fitsE s hs i (by omega)) ?_)
      by_cases h2 : fitsB s i = true
      · refine ev_pos h2 (ev_pos (by omega) ?_)
        rw [if_pos (by simp [good, h1, h2])]
        refine ev_eq (ih (i + 1) (acc ++ [(i : Int)]) (by omega) (by simp; omega)) (by simp)
      · refine ev_neg h2 ?_
        rw [if_neg (by simp [good, h2])]
        exact ih (i + 1) acc (by omega) (by omega)
    · refine ev_neg h1 ?_
      rw [if_neg (by simp [good, h1])]
      exact ih (i + 1) acc (by omega) (by omega)
theorem spec_setsE (s : List (List Int)) (hn : s.length < 4611686018427387904) (most : Int) : Ev (fun k => spec_FaultSets.f k s most) (setsF s most) := by
  by_cases hs : Syn s
  · refine ev_eq (spec_sets_l s hs most (pw s.length) 0 [] (by omega) (by simp)) ?_
    unfold setsF
    rw [if_pos hs]
    rfl
  · unfold spec_FaultSets.f
    refine Ev.step (fun k => by rw [spec_FaultSets.l0]) (Ev.bind (spec_synE s hn) (ev_neg (fun h => hs ((synB_iff s).1 h)) ?_))
    refine Ev.step (fun k => by rw [spec_FaultSets.j1]) (ev_neg (by decide) (ev_ret ?_))
    unfold setsF
    rw [if_neg hs]
end Go.Proofs.Ytgeokcjjkodpeaa.M

/- The exact laws' helpers over whole numbers that mark a result and look whether it is still held. -/
set_option linter.unusedVariables false
set_option linter.unusedSimpArgs false
namespace Go.Proofs.Ytgeokcjjkodpeaa.M
open Go Go.RowKit Go.Proofs.YtgeokcjjkodpeaaW.PrintWords Go.Proofs.Ytgeokcjjkodpeaa.P
def markedI (n : Nat) (a : Int) : List Int := (List.range n).map fun j : Nat => a + (j : Int)
theorem markedI_len (n : Nat) (a : Int) : (markedI n a).length = n := by simp [markedI]
theorem markedI_getD (n : Nat) (a : Int) (j : Nat) (h : j < n) : (markedI n a).getD j 0 = a + (j : Int) := by
  rw [getD_lt _ _ _ (by rw [markedI_len]; exact h)]
  simp [markedI]
theorem mark_int_l (n : Nat) (a : Int) (hn : n ≤ 1048576) (h0 : 0 ≤ a) (h1 : a ≤ 4000000000000000000) : ∀ d i (x : List Int), i + d = n → x.length = n → (∀ j, j < i → x.getD j 0 = a + (j : Int)) →
    Ev (fun k => laws_markIntS.l0 k x (a + (i : Int)) (i : Int)) (a + (n : Int), markedI n a) := by
  intro d
  induction d with
  | zero =>
    intro i x hi hx h
    obtain rfl : i = n := by omega
    refine Ev.step (fun k => by rw [laws_markIntS.l0]) ?_
    refine ev_neg (by omega) (ev_ret ?_)
    rw [ext_getD 0 x (markedI i a) (by rw [markedI_len, hx]) fun j hj => by
      rw [markedI_len] at hj
      rw [h j hj, markedI_getD _ _ _ hj]]
  | succ d ih =>
    intro i x hi hx h
    refine Ev.step (fun k => by rw [laws_markIntS.l0]) ?_
    rw [w64s (by omega), w64 (x := a + (i : Int) + 1) (by omega) (by omega), Int.toNat_natCast, show a + (i : Int) + 1 = a + ((i + 1 : Nat) : Int) by omega]
    refine ev_pos (by omega) ?_
    refine ev_pos (by omega) ?_
    refine ih (i + 1) _ (by omega) (by simpa using hx) fun j hj => ?_
    rw [set_getD 0 x i _ (by omega)]
    split
    · rename_i e
      rw [e]
    · exact h j (by omega)
theorem mark_int (x : List Int) (a : Int) (hn : x.length ≤ 1048576) (h0 : 0 ≤ a) (h1 : a ≤ 4000000000000000000) : Ev (fun k => laws_markIntS.f k x a) (a + (x.length : Int), markedI x.length a) := by
  unfold laws_markIntS.f
  have := mark_int_l x.length a hn h0 h1 x.length 0 x (by omega) rfl (fun j hj => by omega)
  simpa using this
theorem held_int_l (n : Nat) (a : Int) (hn : n ≤ 1048576) (h0 : 0 ≤ a) (h1 : a ≤ 4000000000000000000) : ∀ d i, i + d = n → Ev (fun k => laws_heldIntS.l0 k (markedI n a) (a + (i : Int)) (i : Int)) (a + (n : Int)) := by
  intro d
  induction d with
  | zero =>
    intro i hi
    obtain rfl : i = n := by omega
    refine Ev.step (fun k => by rw [laws_heldIntS.l0]) ?_
    rw [markedI_len]
    exact ev_neg (by omega) (ev_ret rfl)
  | succ d ih =>
    intro i hi
    refine Ev.step (fun k => by rw [laws_heldIntS.l0]) ?_
    rw [markedI_len, rdN, markedI_getD n a i (by omega), w64s (by omega), w64 (x := a + (i : Int) + 1) (by omega) (by omega), show a + (i : Int) + 1 = a + ((i + 1 : Nat) : Int) by omega]
    refine ev_pos (by omega) ?_
    refine ev_pos (by omega) ?_
    refine ev_pos rfl ?_
    exact ih (i + 1) (by omega)
theorem held_int (n : Nat) (a : Int) (hn : n ≤ 1048576) (h0 : 0 ≤ a) (h1 : a ≤ 4000000000000000000) : Ev (fun k => laws_heldIntS.f k (markedI n a) a) (a + (n : Int)) := by
  unfold laws_heldIntS.f
  have := held_int_l n a hn h0 h1 n 0 (by omega)
  simpa using this
theorem eq_ints_l (l : List Int) (hn : l.length ≤ 1048576) : ∀ d i, i + d = l.length → Ev (fun k => laws_eqIntS.l0 k l l (i : Int)) true := by
  intro d
  induction d with
  | zero =>
    intro i hi
    refine Ev.step (fun k => by rw [laws_eqIntS.l0]) ?_
    exact ev_neg (by omega) (ev_ret rfl)
  | succ d ih =>
    intro i hi
    refine Ev.step (fun k => by rw [laws_eqIntS.l0]) ?_
    rw [w64s (by omega)]
    refine ev_pos (by omega) ?_
    refine ev_pos (by omega) ?_
    refine ev_pos (by omega) ?_
    exact ev_pos rfl (ih (i + 1) (by omega))
theorem eq_ints (l : List Int) (hn : l.length ≤ 1048576) : Ev (fun k => laws_eqIntS.f k l l) true := by
  unfold laws_eqIntS.f
  exact ev_pos rfl (eq_ints_l l hn l.length 0 (by omega))
end Go.Proofs.Ytgeokcjjkodpeaa.M

/- Rows of rows of whole numbers, marked. -/
set_option linter.unusedVariables false
set_option linter.unusedSimpArgs false
namespace Go.Proofs.Ytgeokcjjkodpeaa.M
open Go Go.RowKit Go.Proofs.YtgeokcjjkodpeaaW.PrintWords Go.Proofs.Ytgeokcjjkodpeaa.P
def endR : List (List Int) → Int → Int
  | [], a => a
  | r :: s, a => endR s (a + (r.length : Int))
def markedR : List (List Int) → Int → List (List Int)
  | [], _ => []
  | r :: s, a => markedI r.length a :: markedR s (a + (r.length : Int))
theorem endR_le : ∀ (s : List (List Int)) (a : Int), a ≤ endR s a
  | [], _ => Int.le_refl _
  | r :: s, a => by
    have := endR_le s (a + (r.length : Int))
    unfold endR
    omega
theorem endR_bound (B : Nat) : ∀ (s : List (List Int)) (a : Int), (∀ r ∈ s, r.length ≤ B) → endR s a ≤ a + (B * s.length : Nat)
  | [], a, _ => by simp [endR]
  | r :: s, a, h => by
    have h1 := h r (by simp)
    have h2 := endR_bound B s (a + (r.length : Int)) fun x hx => h x (by simp [hx])
    unfold endR
    rw [List.length_cons, Nat.mul_succ]
    omega
theorem at_midR {α : Type} (z : α) (p : List α) (c : α) (s : List α) : (p ++ c :: s).getD p.length z = c := by
  rw [List.getD_eq_getElem?_getD, List.getElem?_append_right (Nat.le_refl _), Nat.sub_self]
  rfl
theorem set_midR {α : Type} (p : List α) (c x : α) (s : List α) : (p ++ c :: s).set p.length x = p ++ x :: s := by
  rw [List.set_append_right _ _ (Nat.le_refl _), Nat.sub_self]
  rfl
theorem step_midR {α : Type} (p : List α) (c : α) (s : List α) : p ++ c :: s = (p ++ [c]) ++ s := by simp
theorem mark_rows_l : ∀ (s p : List (List Int)) (a : Int), 0 ≤ a → endR s a ≤ 4000000000000000000 → p.length + s.length ≤ 1000000000 → (∀ r ∈ s, r.length ≤ 1048576) → Ev (fun k => laws_markIntSS.l0 k (p ++ s) a (p.length : Int)) (endR s a, p ++ markedR s a) := by
  intro s
  induction s with
  | nil =>
    intro p a h0 he hl hr
    refine Ev.step (fun k => by rw [laws_markIntSS.l0]) ?_
    exact ev_neg (by simp) (ev_ret rfl)
  | cons r s ih =>
    intro p a h0 he hl hr
    rw [List.length_cons] at hl
    have h1 := hr r (by simp)
    unfold endR at he
    have h2 := endR_le s (a + (r.length : Int))
    have := ih (p ++ [markedI r.length a]) (a + (r.length : Int)) (by omega) he (by simp; omega) fun x hx => hr x (by simp [hx])
    refine Ev.step (fun k => by rw [laws_markIntSS.l0]) ?_
    refine ev_pos (by simp; omega) ?_
    refine ev_pos (by omega) ?_
    rw [Int.toNat_natCast, at_midR]
    refine ev_bind (mark_int r a h1 h0 (by omega)) ?_
    dsimp only
    rw [set_midR, w64s (by omega), step_midR, show p.length + 1 = (p ++ [markedI r.length a]).length by simp]
    refine ev_eq this ?_
    rw [List.append_assoc]
    rfl
theorem mark_rows (s : List (List Int)) (h : endR s 1 ≤ 4000000000000000000) (hl : s.length ≤ 1000000000) (hr : ∀ r ∈ s, r.length ≤ 1048576) : Ev (fun k => laws_markIntSS.f k s 1) (endR s 1, markedR s 1) := by
  unfold laws_markIntSS.f
  exact mark_rows_l s [] 1 (by decide) h (by simp; omega) hr
end Go.Proofs.Ytgeokcjjkodpeaa.M

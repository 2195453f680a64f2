/- What comes in, opened by its type's shape: a slice of whatever can be opened reads as a list of what its elements read as. -/
import Derived.Test.YtcaogllnbpmcgaaWMore
import Derived.Deep.Slices
import Derived.Deep.Strs
import Derived.ChangeSame
import Derived.ProofKit
set_option linter.unusedVariables false
set_option linter.unusedSimpArgs false
namespace Go.Proofs.Ytcaogllnbpmcgaa.Open
open Go Go.RowKit Go.Proofs.YtcaogllnbpmcgaaW.PrintWords Go.Deep Go.ChangeShapes Go.WideShapes

/-- Whatever reads at this type is what the kind tells. -/
def Opens (P : Program) (w : World) (e : TypeId) {α : Type} (d : Kd α) (wf : α → Prop) : Prop :=
  ∀ (H : Type) (enc : TypeId × Value → H) (n : Nat) (cs : List Value) (x : DataW H × List MemPlace), DataW.trod enc P w 0 (fun _ => true) true n e cs = some x → ∃ a, d.K w a cs ∧ wf a
section
variable {P : Program} {w : World} {t e : TypeId}
theorem opens_int {k : IntKind} (ht : P.underlying t = some (.int k)) : Opens P w t (Kd.int k) (fun a => (Lit.int k a).wf = true) := fun H enc n cs x h => by
  obtain ⟨m, rfl, _, hw⟩ := DataW.trod_int ht h
  exact ⟨m, rfl, hw⟩
theorem opens_bool (ht : P.underlying t = some .bool) : Opens P w t Kd.bool (fun _ => True) := fun H enc n cs x h => by
  obtain ⟨m, rfl, _⟩ := DataW.trod_bool ht h
  exact ⟨m, rfl, trivial⟩
theorem list_of {α : Type} (n : Nat) (Q : Nat → α → Prop) (h : ∀ i, i < n → ∃ a, Q i a) : ∃ l : List α, l.length = n ∧ ∀ i a, l[i]? = some a → Q i a := by
  induction n with
  | zero => exact ⟨[], rfl, fun i a h => by simp at h⟩
  | succ n ih =>
    obtain ⟨l, hl, hq⟩ := ih fun i hi => h i (by omega)
    obtain ⟨a, ha⟩ := h n (by omega)
    refine ⟨l ++ [a], by simp [hl], fun i b hb => ?_⟩
    by_cases hi : i < n
    · rw [List.getElem?_append_left (by omega)] at hb
      exact hq i b hb
    · by_cases he : i = n
      · subst he
        rw [List.getElem?_append_right (by omega), hl, Nat.sub_self] at hb
        simp at hb
        exact hb ▸ ha
      · rw [List.getElem?_eq_none (by simp; omega)] at hb
        cases hb
theorem opens_slice {α : Type} {d : Kd α} {wf : α → Prop} (ht : P.underlying t = some (.slice e)) (hc : P.cellsOf e = d.sz) (he : Opens P w e d wf) :
    Opens P w t (Kd.slice e d) (fun l => l.length ≤ maxLen ∧ ∀ x ∈ l, wf x) := fun H enc n cs x h => by
  rcases open_slice ht h with ⟨rfl, _⟩ | ⟨a, len, cap, m, n', D, Pl, rfl, _, hl, hm, hmm, _, hx⟩
  · exact ⟨[], ⟨none, 0, rfl, Nat.le_refl _, rfl, Nat.zero_le _, fun h => absurd h (Nat.lt_irrefl _)⟩, Nat.zero_le _, fun x hx => by cases hx⟩
  · obtain ⟨l, hll, hq⟩ := list_of len (fun i p => (∃ c, c.length = d.sz ∧ d.K w p c ∧ ∀ j u, c[j]? = some u → w.cell? (a.add (i * d.sz + j)) = some u) ∧ wf p) fun i hi => by
      obtain ⟨cs', hcs, htr⟩ := hx i (by rw [hmm]; simp; omega)
      obtain ⟨p, hK, hw⟩ := he H enc n' cs' _ htr
      obtain ⟨_, hlen, hcell⟩ := World.cells?_some hcs
      refine ⟨p, ⟨cs', by omega, hK, fun j u hu => ?_⟩, hw⟩
      have hj : j < cs'.length := (List.getElem?_eq_some_iff.1 hu).1
      have := hcell j (by omega)
      rw [Go.Deep.add_add, hc] at this
      exact this.trans hu
    subst hll
    refine ⟨l, ⟨some a, cap, rfl, hl, rfl, by unfold maxLen at hm; omega, fun _ => ⟨a, rfl, fun j p hp => (hq j p hp).1⟩⟩, by omega, fun x hx => ?_⟩
    obtain ⟨j, hj, e⟩ := List.getElem_of_mem hx
    exact (hq j x (by rw [List.getElem?_eq_getElem hj, e])).2
/-- A slice that is a parameter. -/
theorem top_slice {α : Type} {d : Kd α} {wf : List α → Prop} {H : Type} {enc : TypeId × Value → H} {a : Option Addr} {len cap : Nat} {dd : DataW H} {pp : List MemPlace} (ho : Opens P w t (Kd.slice e d) wf)
    (h : DataW.Trod enc P w 0 (fun _ => true) true t (.slice a len cap) dd pp) : ∃ l : List α, len = l.length ∧ l.length ≤ cap ∧ d.C w a l.length l ∧ wf l := by
  obtain ⟨fuel, hf⟩ := h
  obtain ⟨l, ⟨A, c, hcs, hl, hC⟩, hw⟩ := ho H enc fuel _ _ hf
  have : Value.slice a len cap = Value.slice A l.length c := by simpa [Value.cells] using hcs
  injection this with h1 h2 h3
  subst h1
  subst h3
  exact ⟨l, h2, hl, hC, hw⟩
theorem opens_two {α β γ : Type} {d0 : Kd α} {d1 : Kd β} {d : Kd γ} {wf0 : α → Prop} {wf1 : β → Prop} {wf : γ → Prop} {f0 f1 : Field} (pair : α → β → γ) (ht : P.underlying t = some (.struct #[f0, f1])) (hc : P.cellsOf t = 2)
    (o0 : f0.offset = 0) (o1 : f1.offset = 1) (c0 : P.cellsOf f0.type = 1) (c1 : P.cellsOf f1.type = 1) (h0 : Opens P w f0.type d0 wf0) (h1 : Opens P w f1.type d1 wf1)
    (mk : ∀ a b x y, d0.K w a [x] → d1.K w b [y] → d.K w (pair a b) [x, y]) (hwf : ∀ a b, wf0 a → wf1 b → wf (pair a b)) : Opens P w t d wf := fun H enc n cs x h => by
  obtain ⟨y0, y1, m, _, hl, t0, t1⟩ := trod_struct2 ht h
  rw [o0, c0] at t0
  rw [o1, c1] at t1
  rw [hc] at hl
  match cs, hl with
  | [u, v], _ =>
    obtain ⟨a, ha, wa⟩ := h0 H enc m _ _ t0
    obtain ⟨b, hb, wb⟩ := h1 H enc m _ _ t1
    exact ⟨pair a b, mk a b u v ha hb, hwf a b wa wb⟩
theorem opens_three {α β γ δ : Type} {d0 : Kd α} {d1 : Kd β} {d2 : Kd γ} {d : Kd δ} {wf0 : α → Prop} {wf1 : β → Prop} {wf2 : γ → Prop} {wf : δ → Prop} {f0 f1 f2 : Field} (pair : α → β → γ → δ) (ht : P.underlying t = some (.struct #[f0, f1, f2])) (hc : P.cellsOf t = 3)
    (o0 : f0.offset = 0) (o1 : f1.offset = 1) (o2 : f2.offset = 2) (c0 : P.cellsOf f0.type = 1) (c1 : P.cellsOf f1.type = 1) (c2 : P.cellsOf f2.type = 1) (h0 : Opens P w f0.type d0 wf0) (h1 : Opens P w f1.type d1 wf1) (h2 : Opens P w f2.type d2 wf2)
    (mk : ∀ a b c x y z, d0.K w a [x] → d1.K w b [y] → d2.K w c [z] → d.K w (pair a b c) [x, y, z]) (hwf : ∀ a b c, wf0 a → wf1 b → wf2 c → wf (pair a b c)) : Opens P w t d wf := fun H enc n cs x h => by
  obtain ⟨y0, y1, y2, m, _, hl, t0, t1, t2⟩ := trod_struct3 ht h
  rw [o0, c0] at t0
  rw [o1, c1] at t1
  rw [o2, c2] at t2
  rw [hc] at hl
  match cs, hl with
  | [u, v, z], _ =>
    obtain ⟨a, ha, wa⟩ := h0 H enc m _ _ t0
    obtain ⟨b, hb, wb⟩ := h1 H enc m _ _ t1
    obtain ⟨c, hc, wc⟩ := h2 H enc m _ _ t2
    exact ⟨pair a b c, mk a b c u v z ha hb hc, hwf a b c wa wb wc⟩
end
end Go.Proofs.Ytcaogllnbpmcgaa.Open

/- The tied card of FnExactProofText: the law's row is proved, for every input; the three tables of the library that its row lists are tied to the program's text by the given tie. -/
import Derived.SizedLaws
import Derived.ChangeSlices
import Derived.Deep.Slices
import Derived.Deep.Strs
import Derived.ChangeSame
import Derived.ProofKit
import Derived.Test.YtcaogllnbpmcgaaDoorPx23
import Derived.Test.YtcaogllnbpmcgaaDoorPx22
import Derived.Test.YtcaogllnbpmcgaaDoorPx24
import Derived.Test.YtcaogllnbpmcgaaDoorRows
import Derived.Test.YtcaogllnbpmcgaaDoorMHd
import Derived.WalkKit
import Derived.LaidMore
import Derived.Stop.Joined
import Derived.OpenShut
import Derived.ShutString
import Derived.ChangeOld
import Derived.Below
import Derived.Test.YtcaogllnbpmcgaaDoorCards
import Derived.Test.YtcaogllnbpmcgaaDoorTie
import Derived.SevenTiedAt
/- The print's words, without those that nothing here names. -/

namespace Go.Proofs.YtcaogllnbpmcgaaDoorW.PrintWords
open Go.ChangeShapes Go.WideShapes
end Go.Proofs.YtcaogllnbpmcgaaDoorW.PrintWords


/- What the proof of this law needs besides: texts of ours, one behind the other. -/
/- What comes in, opened by its type's shape: a slice of whatever can be opened reads as a list of what its elements read as. -/
set_option linter.unusedVariables false
set_option linter.unusedSimpArgs false
namespace Go.Proofs.YtcaogllnbpmcgaaDoor.Open
open Go Go.RowKit Go.Proofs.YtcaogllnbpmcgaaDoorW.PrintWords Go.Deep Go.ChangeShapes Go.WideShapes

/-- Whatever reads at this type is what the kind tells. -/
def Opens (P : Program) (w : World) (e : TypeId) {α : Type} (d : Kd α) (wf : α → Prop) : Prop :=
 ∀ (H : Type) (enc : TypeId × Value → H) (n : Nat) (cs : List Value) (x : DataW H × List MemPlace), DataW.trod enc P w 0 (fun _ => true) true n e cs = some x → ∃ a, d.K w a cs ∧ wf a
section
variable {P : Program} {w : World} {t e : TypeId}
theorem opens_int {k : IntKind} (ht : P.underlying t = some (.int k)) : Opens P w t (Kd.int k) (fun a => (Lit.int k a).wf = true) := fun H enc n cs x h => by
 obtain ⟨m, rfl, _, hw⟩ := DataW.trod_int ht h
 exact ⟨m, rfl, hw⟩
theorem opens_bool (ht : P.underlying t = some .bool) : Opens P w t Kd.bool (fun _ => True) := fun H enc n cs x h => by
 obtain ⟨m, rfl, _⟩ := DataW.trod_bool ht h
 exact ⟨m, rfl, trivial⟩
theorem list_of {α : Type} (n : Nat) (Q : Nat → α → Prop) (h : ∀ i, i < n → ∃ a, Q i a) : ∃ l : List α, l.length = n ∧ ∀ i a, l[i]? = some a → Q i a := by
 induction n with
 | zero => exact ⟨[], rfl, fun i a h => by simp at h⟩
 | succ n ih =>
  obtain ⟨l, hl, hq⟩ := ih fun i hi => h i (by omega)
  obtain ⟨a, ha⟩ := h n (by omega)
  refine ⟨l ++ [a], by simp [hl], fun i b hb => ?_⟩
  by_cases hi : i < n
  ·rw [List.getElem?_append_left (by omega)] at hb
   exact hq i b hb
  ·by_cases he : i = n
   ·subst he
    rw [List.getElem?_append_right (by omega), hl, Nat.sub_self] at hb
    simp at hb
    exact hb ▸ ha
   ·rw [List.getElem?_eq_none (by simp; omega)] at hb
    cases hb
theorem opens_slice {α : Type} {d : Kd α} {wf : α → Prop} (ht : P.underlying t = some (.slice e)) (hc : P.cellsOf e = d.sz) (he : Opens P w e d wf) :
  Opens P w t (Kd.slice e d) (fun l => l.length ≤ maxLen ∧ ∀ x ∈ l, wf x) := fun H enc n cs x h => by
 rcases open_slice ht h with ⟨rfl, _⟩ | ⟨a, len, cap, m, n', D, Pl, rfl, _, hl, hm, hmm, _, hx⟩
 ·exact ⟨[], ⟨none, 0, rfl, Nat.le_refl _, rfl, Nat.zero_le _, fun h => absurd h (Nat.lt_irrefl _)⟩, Nat.zero_le _, fun x hx => by cases hx⟩
 ·obtain ⟨l, hll, hq⟩ := list_of len (fun i p => (∃ c, c.length = d.sz ∧ d.K w p c ∧ ∀ j u, c[j]? = some u → w.cell? (a.add (i * d.sz + j)) = some u) ∧ wf p) fun i hi => by
   obtain ⟨cs', hcs, htr⟩ := hx i (by rw [hmm]; simp; omega)
   obtain ⟨p, hK, hw⟩ := he H enc n' cs' _ htr
   obtain ⟨_, hlen, hcell⟩ := World.cells?_some hcs
   refine ⟨p, ⟨cs', by omega, hK, fun j u hu => ?_⟩, hw⟩
   have hj : j < cs'.length := (List.getElem?_eq_some_iff.1 hu).1
   have := hcell j (by omega)
   rw [Go.Deep.add_add, hc] at this
   exact this.trans hu
  subst hll
  refine ⟨l, ⟨some a, cap, rfl, hl, rfl, by unfold maxLen at hm; omega, fun _ => ⟨a, rfl, fun j p hp => (hq j p hp).1⟩⟩, by omega, fun x hx => ?_⟩
  obtain ⟨j, hj, e⟩ := List.getElem_of_mem hx
  exact (hq j x (by rw [List.getElem?_eq_getElem hj, e])).2
/-- A slice that is a parameter. -/
theorem top_slice {α : Type} {d : Kd α} {wf : List α → Prop} {H : Type} {enc : TypeId × Value → H} {a : Option Addr} {len cap : Nat} {dd : DataW H} {pp : List MemPlace} (ho : Opens P w t (Kd.slice e d) wf)
  (h : DataW.Trod enc P w 0 (fun _ => true) true t (.slice a len cap) dd pp) : ∃ l : List α, len = l.length ∧ l.length ≤ cap ∧ d.C w a l.length l ∧ wf l := by
 obtain ⟨fuel, hf⟩ := h
 obtain ⟨l, ⟨A, c, hcs, hl, hC⟩, hw⟩ := ho H enc fuel _ _ hf
 have : Value.slice a len cap = Value.slice A l.length c := by simpa [Value.cells] using hcs
 injection this with h1 h2 h3
 subst h1
 subst h3
 exact ⟨l, h2, hl, hC, hw⟩
theorem opens_two {α β γ : Type} {d0 : Kd α} {d1 : Kd β} {d : Kd γ} {wf0 : α → Prop} {wf1 : β → Prop} {wf : γ → Prop} {f0 f1 : Field} (pair : α → β → γ) (ht : P.underlying t = some (.struct #[f0, f1])) (hc : P.cellsOf t = 2)
  (o0 : f0.offset = 0) (o1 : f1.offset = 1) (c0 : P.cellsOf f0.type = 1) (c1 : P.cellsOf f1.type = 1) (h0 : Opens P w f0.type d0 wf0) (h1 : Opens P w f1.type d1 wf1)
  (mk : ∀ a b x y, d0.K w a [x] → d1.K w b [y] → d.K w (pair a b) [x, y]) (hwf : ∀ a b, wf0 a → wf1 b → wf (pair a b)) : Opens P w t d wf := fun H enc n cs x h => by
 obtain ⟨y0, y1, m, _, hl, t0, t1⟩ := trod_struct2 ht h
 rw [o0, c0] at t0
 rw [o1, c1] at t1
 rw [hc] at hl
 match cs, hl with
 | [u, v], _ =>
  obtain ⟨a, ha, wa⟩ := h0 H enc m _ _ t0
  obtain ⟨b, hb, wb⟩ := h1 H enc m _ _ t1
  exact ⟨pair a b, mk a b u v ha hb, hwf a b wa wb⟩
theorem opens_three {α β γ δ : Type} {d0 : Kd α} {d1 : Kd β} {d2 : Kd γ} {d : Kd δ} {wf0 : α → Prop} {wf1 : β → Prop} {wf2 : γ → Prop} {wf : δ → Prop} {f0 f1 f2 : Field} (pair : α → β → γ → δ) (ht : P.underlying t = some (.struct #[f0, f1, f2])) (hc : P.cellsOf t = 3)
  (o0 : f0.offset = 0) (o1 : f1.offset = 1) (o2 : f2.offset = 2) (c0 : P.cellsOf f0.type = 1) (c1 : P.cellsOf f1.type = 1) (c2 : P.cellsOf f2.type = 1) (h0 : Opens P w f0.type d0 wf0) (h1 : Opens P w f1.type d1 wf1) (h2 : Opens P w f2.type d2 wf2)
  (mk : ∀ a b c x y z, d0.K w a [x] → d1.K w b [y] → d2.K w c [z] → d.K w (pair a b c) [x, y, z]) (hwf : ∀ a b c, wf0 a → wf1 b → wf2 c → wf (pair a b c)) : Opens P w t d wf := fun H enc n cs x h => by
 obtain ⟨y0, y1, y2, m, _, hl, t0, t1, t2⟩ := trod_struct3 ht h
 rw [o0, c0] at t0
 rw [o1, c1] at t1
 rw [o2, c2] at t2
 rw [hc] at hl
 match cs, hl with
 | [u, v, z], _ =>
  obtain ⟨a, ha, wa⟩ := h0 H enc m _ _ t0
  obtain ⟨b, hb, wb⟩ := h1 H enc m _ _ t1
  obtain ⟨c, hc, wc⟩ := h2 H enc m _ _ t2
  exact ⟨pair a b c, mk a b c u v z ha hb hc, hwf a b c wa wb wc⟩
end
end Go.Proofs.YtcaogllnbpmcgaaDoor.Open

/- A struct of two fields that comes in by value, opened. -/
set_option linter.unusedVariables false
set_option linter.unusedSimpArgs false
namespace Go.Proofs.YtcaogllnbpmcgaaDoor.Open
open Go Go.RowKit Go.Proofs.YtcaogllnbpmcgaaDoorW.PrintWords Go.Deep Go.ChangeShapes Go.WideShapes
theorem top_two {P : Program} {w : World} {t : TypeId} {α β : Type} {d0 : Kd α} {d1 : Kd β} {wf0 : α → Prop} {wf1 : β → Prop} {f0 f1 : Field} {H : Type} {enc : TypeId × Value → H} {v : Value} {base : Nat} {r : Reach} {dd : DataW H} {pp : List MemPlace}
  (ht : P.underlying t = some (.struct #[f0, f1])) (hc : P.cellsOf t = 2)
  (o0 : f0.offset = 0) (o1 : f1.offset = 1) (c0 : P.cellsOf f0.type = 1) (c1 : P.cellsOf f1.type = 1) (h0 : Opens P w f0.type d0 wf0) (h1 : Opens P w f1.type d1 wf1)
  (hv : Value.okWide P w r base t v) (h : DataW.Trod enc P w 0 (fun _ => true) true t v dd pp) : ∃ x y a b, v = .agg #[x, y] ∧ d0.K w a [x] ∧ wf0 a ∧ d1.K w b [y] ∧ wf1 b := by
 unfold Value.okWide at hv
 rw [ht] at hv
 obtain ⟨cs, rfl, hn, _⟩ := hv
 obtain ⟨fuel, hf⟩ := h
 obtain ⟨y0, y1, m, _, hl, t0, t1⟩ := trod_struct2 ht hf
 rw [o0, c0] at t0
 rw [o1, c1] at t1
 rw [hc] at hn
 obtain ⟨l⟩ := cs
 match l, hn with
 | [u, v], _ =>
  obtain ⟨a, ha, wa⟩ := h0 H enc m _ _ t0
  obtain ⟨b, hb, wb⟩ := h1 H enc m _ _ t1
  exact ⟨u, v, a, b, rfl, ha, wa, hb, wb⟩
end Go.Proofs.YtcaogllnbpmcgaaDoor.Open

/- Tables of claims. -/
set_option linter.unusedVariables false
set_option linter.unusedSimpArgs false
namespace Go.Proofs.YtcaogllnbpmcgaaDoor.M
open Go Go.RowKit Go.Proofs.YtcaogllnbpmcgaaDoorW.PrintWords Go.Proofs.YtcaogllnbpmcgaaDoor.P
theorem tabS' (p : Nat → Bool) (j : Nat) (hj : j ≤ 16) (h : p j = true) : Go.bits .or .i64 (tabN p j : Int) (pw j : Int) = ((tabN p (j + 1) : Nat) : Int) := by
 rw [or_pw p j hj]
 simp [tabN, h]
theorem tabZ' (p : Nat → Bool) (j : Nat) (h : p j = false) : tabN p j = tabN p (j + 1) := by simp [tabN, h]
theorem shl_u64' (n : Nat) (hn : n ≤ 4) : shl .u64 1 (n : Int) = (pw n : Int) := by
 rcases (by omega : n = 0 ∨ n = 1 ∨ n = 2 ∨ n = 3 ∨ n = 4) with rfl | rfl | rfl | rfl | rfl <;> decide
theorem shl2' (n : Nat) (hn : n ≤ 4) : shl .i64 1 (shl .u64 1 (n : Int)) = (pw (pw n) : Int) := by
 have := pwm4 hn
 rw [shl_u64' n hn, shl_nat _ (by omega)]
theorem ppw' {n : Nat} (h : n ≤ 4) : pw (pw n) ≤ 65536 := pw16 (pwm4 h)
/-- The table of a claim, and of a story. -/
def tabC (n : Nat) (c : Cl) : Nat := tabN (mayB c.f0.toNat c.f1) (pw n)
def tabS (n : Nat) (s : List Cl) : Nat := s.foldl (fun t c => t &&& tabC n c) (pw (pw n) - 1)
theorem tabC_lt (n : Nat) (hn : n ≤ 4) (c : Cl) : tabC n c < 65536 := Nat.lt_of_lt_of_le (tabN_lt _ _) (ppw' hn)
end Go.Proofs.YtcaogllnbpmcgaaDoor.M

/- The reference's TermOk tells whether a row is a term. -/
set_option linter.unusedVariables false
set_option linter.unusedSimpArgs false
namespace Go.Proofs.YtcaogllnbpmcgaaDoor.M
open Go Go.RowKit Go.Proofs.YtcaogllnbpmcgaaDoorW.PrintWords Go.Proofs.YtcaogllnbpmcgaaDoor.P
theorem l1InT (a b c : Int) : spec_l1In.f a b c = some (decide (b ≤ a ∧ a ≤ c)) := by
 unfold spec_l1In.f
 by_cases h : a ≥ b
 ·rw [if_pos h]
  simp [h]
 ·rw [if_neg h]
  simp
  intro h'
  omega
/-- No mark is beyond the machine's whole numbers. -/
def M64 (s : List Mk) : Prop := ∀ i : Nat, (s.getD i zM).f1 ≤ 9223372036854775807
theorem spec_termOk_l (n : Int) (hb : n ≤ 9223372036854775807) (s : List Mk) (h64 : M64 s) (hs : s.length < 4611686018427387904) : ∀ d i p : Nat, i + d = s.length → p ≤ i →
  Tells (fun k => spec_TermOk.l0 k n s (p : Int) (i : Int)) (foldP n p (s.drop i) = some 1 ∧ (1 ≤ n ∧ n ≤ 4) ∧ s.length ≤ 15) := by
 intro d
 induction d with
 | zero =>
  intro i p hi hp
  refine Tells.step (fun k => by rw [spec_TermOk.l0]) ?_
  refine Tells.neg (by omega) ?_
  rw [List.drop_eq_nil_of_le (by omega)]
  refine Tells.bindc (l1InT n 1 4) ?_
  simp only [foldP, Option.some.injEq]
  refine Tells.ite (fun h => ?_) (fun h => Tells.no fun h' => h (decide_eq_true h'.2.1))
  have hn := of_decide_eq_true h
  refine Tells.ite (fun h1 => Tells.dec ?_) (fun h1 => Tells.no fun h' => h1 (by omega))
  exact ⟨fun h => ⟨by omega, hn, by omega⟩, fun h => by omega⟩
 | succ d ih =>
  intro i p hi hp
  refine Tells.step (fun k => by rw [spec_TermOk.l0]) ?_
  rw [foldP_drop n p s i (by omega), rdM]
  refine Tells.pos (by omega) ?_
  refine Tells.pos (by omega) ?_
  have hm64 := h64 i
  generalize hm : s.getD i zM = m at hm64
  have go : ∀ q, q ≤ i + 1 → stepP n p m = some q → Tells (fun k => spec_TermOk.l0 k n s (q : Int) ((i + 1 : Nat) : Int)) ((stepP n p m).bind (fun q => foldP n q (s.drop (i + 1))) = some 1 ∧ (1 ≤ n ∧ n ≤ 4) ∧ s.length ≤ 15) := fun q hq e => by
   rw [e]
   exact ih (i + 1) q (by omega) hq
  have no : stepP n p m = none → Tells (fun _ => some false) ((stepP n p m).bind (fun q => foldP n q (s.drop (i + 1))) = some 1 ∧ (1 ≤ n ∧ n ≤ 4) ∧ s.length ≤ 15) := fun e => by
   rw [e]
   exact Tells.no (by simp)
  have j3 : m.f0 ≠ 0 → m.f0 ≠ 1 → ¬ (m.f0 = 2 ∧ m.f1 = 0 ∧ 1 ≤ p) → Tells (fun k => spec_TermOk.j3 k n s (p : Int) (i : Int) false) ((stepP n p m).bind (fun q => foldP n q (s.drop (i + 1))) = some 1 ∧ (1 ≤ n ∧ n ≤ 4) ∧ s.length ≤ 15) := fun h0 h1 h2 => by
   refine Tells.step (fun k => by rw [spec_TermOk.j3]) ?_
   rw [rdM, hm, w64s (by omega)]
   refine Tells.neg (by decide) ?_
   refine Tells.pos (by omega) ?_
   refine Tells.pos (by omega) ?_
   refine Tells.bindc (l1InT m.f0 3 5) ?_
   have bad : ¬ (3 ≤ m.f0 ∧ m.f0 ≤ 5 ∧ m.f1 = 0 ∧ 2 ≤ p) → stepP n p m = none := fun hb => by
    unfold stepP
    rw [if_neg h0, if_neg h1]
    by_cases h2' : m.f0 = 2
    ·rw [if_pos h2', if_neg (fun h => h2 ⟨h2', h.1, h.2⟩)]
    ·rw [if_neg h2']
     by_cases h3 : 3 ≤ m.f0 ∧ m.f0 ≤ 5
     ·rw [if_pos h3, if_neg (fun h => hb ⟨h3.1, h3.2, h.1, h.2⟩)]
     ·rw [if_neg h3]
   refine Tells.ite (fun h3 => ?_) (fun h3 => no (bad fun h => h3 (decide_eq_true ⟨h.1, h.2.1⟩)))
   have h3 := of_decide_eq_true h3
   refine Tells.ite (fun h4 => ?_) (fun h4 => no (bad fun h => h4 h.2.2.1))
   refine Tells.ite (fun h5 => ?_) (fun h5 => no (bad fun h => h5 (by omega)))
   rw [w64 (x := (p : Int) - 1) (by omega) (by omega), show (p : Int) - 1 = ((p - 1 : Nat) : Int) by omega]
   exact go (p - 1) (by omega) (by unfold stepP; rw [if_neg h0, if_neg h1, if_neg (by omega), if_pos h3, if_pos ⟨h4, by omega⟩])
  have j2 : m.f0 ≠ 0 → ¬ (m.f0 = 1 ∧ 0 ≤ m.f1 ∧ m.f1 ≤ n + 1) → Tells (fun k => spec_TermOk.j2 k n s (p : Int) (i : Int) false) ((stepP n p m).bind (fun q => foldP n q (s.drop (i + 1))) = some 1 ∧ (1 ≤ n ∧ n ≤ 4) ∧ s.length ≤ 15) := fun h0 h1 => by
   refine Tells.step (fun k => by rw [spec_TermOk.j2]) ?_
   rw [rdM, hm]
   refine Tells.neg (by decide) ?_
   refine Tells.pos (by omega) ?_
   refine Tells.pos (by omega) ?_
   by_cases h11 : m.f0 = 1
   ·have e : stepP n p m = none := by
     unfold stepP
     rw [if_neg h0, if_pos h11, if_neg (fun h => h1 ⟨h11, h⟩)]
    refine Tells.neg (by simp [h11]) ?_
    refine Tells.step (fun k => by rw [spec_TermOk.j3]) ?_
    rw [rdM, hm]
    refine Tells.neg (by decide) ?_
    refine Tells.pos (by omega) ?_
    refine Tells.pos (by omega) ?_
    refine Tells.bindc (l1InT m.f0 3 5) ?_
    refine Tells.neg (fun h => by have := of_decide_eq_true h; omega) ?_
    exact no e
   refine Tells.ite (fun h2 => ?_) (fun h2 => j3 h0 h11 fun h => h2 (by simp [h.1, h.2.1]))
   have h2 : m.f0 = 2 ∧ m.f1 = 0 := by simpa using h2
   by_cases hp1 : (p : Int) ≥ 1
   ·rw [decide_eq_true hp1]
    refine Tells.step (fun k => by rw [spec_TermOk.j3]) ?_
    rw [w64s (by omega)]
    refine Tells.pos rfl ?_
    exact go p (by omega) (by unfold stepP; rw [if_neg h0, if_neg h11, if_pos h2.1, if_pos ⟨h2.2, by omega⟩])
   ·rw [decide_eq_false hp1]
    exact j3 h0 h11 fun h => hp1 (by omega)
  have j2t : m.f0 = 1 → 0 ≤ m.f1 → m.f1 ≤ n + 1 → Tells (fun k => spec_TermOk.j2 k n s (p : Int) (i : Int) true) ((stepP n p m).bind (fun q => foldP n q (s.drop (i + 1))) = some 1 ∧ (1 ≤ n ∧ n ≤ 4) ∧ s.length ≤ 15) := fun h0 h1 h2 => by
   refine Tells.step (fun k => by rw [spec_TermOk.j2]) ?_
   rw [w64s (by omega), w64s (by omega)]
   refine Tells.pos rfl ?_
   exact go (p + 1) (by omega) (by unfold stepP; rw [if_neg (by omega), if_pos h0, if_pos ⟨h1, h2⟩])
  have j1 : ¬ (m.f0 = 0 ∧ 0 ≤ m.f1 ∧ m.f1 < n) → Tells (fun k => spec_TermOk.j1 k n s (p : Int) (i : Int) false) ((stepP n p m).bind (fun q => foldP n q (s.drop (i + 1))) = some 1 ∧ (1 ≤ n ∧ n ≤ 4) ∧ s.length ≤ 15) := fun h0 => by
   refine Tells.step (fun k => by rw [spec_TermOk.j1]) ?_
   rw [rdM, hm]
   refine Tells.neg (by decide) ?_
   refine Tells.pos (by omega) ?_
   refine Tells.pos (by omega) ?_
   by_cases h00 : m.f0 = 0
   ·have e : stepP n p m = none := by
     unfold stepP
     rw [if_pos h00, if_neg (fun h => h0 ⟨h00, h⟩)]
    refine Tells.neg (by omega) ?_
    refine Tells.step (fun k => by rw [spec_TermOk.j2]) ?_
    rw [rdM, hm]
    refine Tells.neg (by decide) ?_
    refine Tells.pos (by omega) ?_
    refine Tells.pos (by omega) ?_
    refine Tells.neg (by simp [h00]) ?_
    refine Tells.step (fun k => by rw [spec_TermOk.j3]) ?_
    rw [rdM, hm]
    refine Tells.neg (by decide) ?_
    refine Tells.pos (by omega) ?_
    refine Tells.pos (by omega) ?_
    refine Tells.bindc (l1InT m.f0 3 5) ?_
    refine Tells.neg (fun h => by have := of_decide_eq_true h; omega) ?_
    exact no e
   refine Tells.ite (fun h1 => ?_) (fun h1 => j2 h00 fun h => h1 h.1)
   refine Tells.ite (fun h2 => ?_) (fun h2 => j2 h00 fun h => h2 h.2.1)
   refine Tells.ite (fun h3 => j2t h1 h2 (by omega)) (fun h3 => ?_)
   by_cases h4 : wrap64 (m.f1 - 1) = n
   ·rw [show (wrap64 (m.f1 - 1) == n) = true by simp [h4]]
    exact j2t h1 h2 (by rw [w64 (by omega) (by omega)] at h4; omega)
   ·rw [show (wrap64 (m.f1 - 1) == n) = false by simp [h4]]
    exact j2 h00 fun h => h4 (by rw [w64 (by omega) (by omega)]; omega)
  refine Tells.ite (fun h0 => ?_) (fun h0 => j1 fun h => h0 h.1)
  refine Tells.ite (fun h1 => ?_) (fun h1 => j1 fun h => h1 h.2.1)
  by_cases h2 : m.f1 < n
  ·rw [decide_eq_true h2]
   refine Tells.step (fun k => by rw [spec_TermOk.j1]) ?_
   rw [w64s (by omega), w64s (by omega)]
   refine Tells.pos rfl ?_
   exact go (p + 1) (by omega) (by unfold stepP; rw [if_pos h0, if_pos ⟨h1, h2⟩])
  ·rw [decide_eq_false h2]
   exact j1 fun h => h2 h.2.2
theorem spec_termOk (n : Int) (hb : n ≤ 9223372036854775807) (s : List Mk) (h64 : M64 s) (hs : s.length < 4611686018427387904) : Tells (fun k => spec_TermOk.f k n s) (TermP n s) := by
 unfold spec_TermOk.f
 refine (spec_termOk_l n hb s h64 hs s.length 0 0 (by omega) (by omega)).iff ?_
 rw [List.drop_zero]
 exact ⟨fun h => ⟨h.2.1, h.2.2, h.1⟩, fun h => ⟨h.2.2, h.1, h.2.1⟩⟩
end Go.Proofs.YtcaogllnbpmcgaaDoor.M

/- The reference's ClaimOk. -/
set_option linter.unusedVariables false
set_option linter.unusedSimpArgs false
namespace Go.Proofs.YtcaogllnbpmcgaaDoor.M
open Go Go.RowKit Go.Proofs.YtcaogllnbpmcgaaDoorW.PrintWords Go.Proofs.YtcaogllnbpmcgaaDoor.P
theorem spec_claimOk (n : Int) (hn : n ≤ 9223372036854775807) (who : Int) (l : List Mk) (h64 : M64 l) (hl : l.length < 4611686018427387904) : Tells (fun k => spec_ClaimOk.f k n who l) (ClaimP n who l) := by
 unfold spec_ClaimOk.f
 refine Tells.ite (fun h0 => ?_) (fun h0 => Tells.no fun h' => h0 h'.1)
 refine Tells.ite (fun h1 => ?_) (fun h1 => Tells.no fun h' => h1 h'.2.1)
 obtain ⟨b, hb, hi⟩ := spec_termOk n hn l h64 hl
 refine Tells.bind hb ?_
 refine Tells.ite (fun h2 => Tells.dec ?_) (fun h2 => Tells.no fun h' => h2 (hi.2 h'.2.2.1))
 exact ⟨fun h => ⟨h0, h1, hi.1 h2, by omega⟩, fun h => by have := h.2.2.2; omega⟩
/-- Nothing in the story is beyond the machine's numbers. -/
def S64 (s : List Cl) : Prop := s.length < 4611686018427387904 ∧ ∀ i, M64 (s.getD i zC).f1 ∧ (s.getD i zC).f1.length < 4611686018427387904
end Go.Proofs.YtcaogllnbpmcgaaDoor.M

/- The reference's way, from the last mark, tells the tree's value. -/
set_option linter.unusedVariables false
set_option linter.unusedSimpArgs false
namespace Go.Proofs.YtcaogllnbpmcgaaDoor.M
open Go Go.RowKit Go.Proofs.YtcaogllnbpmcgaaDoorW.PrintWords Go.Proofs.YtcaogllnbpmcgaaDoor.P
theorem spec_headsE (w : Nat) (hw : w < 16) : Ev (fun k => spec_l1Heads.f k (w : Int)) ((heads w : Nat) : Int) := by
 have h : ∀ w : Fin 16, spec_l1Heads.f 10 (w.val : Int) = some ((heads w.val : Nat) : Int) := by decide +kernel
 exact Ev.of (fun k => spec_l1Heads.mono (w : Int) k) (h ⟨w, hw⟩)
theorem starts_l (n : Int) (L : List Mk) (hL : L.length ≤ 1000) (r : Int) (t : Tm) : ∀ (pre post : List Mk) (d : Nat), t.Ok n → L = pre ++ t.enc ++ post → d ≤ 1000000 - t.enc.length →
  Ev (fun k => spec_l2Starts.l0 k L (d : Int) ((pre.length : Int) - 1)) r → Ev (fun k => spec_l2Starts.l0 k L ((d + 1 : Nat) : Int) (((pre.length + t.enc.length : Nat) : Int) - 1)) r := by
 induction t with
 | leaf m =>
  intro pre post d ht hl hd h
  refine Ev.step (fun k => by rw [spec_l2Starts.l0]) ?_
  have hlen : L.length = pre.length + 1 + post.length := by rw [hl]; simp [Tm.enc]; omega
  have hget : L.getD pre.length zM = m := by
   rw [hl]
   simp only [Tm.enc, List.append_assoc, List.singleton_append]
   exact getD_at zM pre m post
  have e : ((pre.length + (Tm.leaf m).enc.length : Nat) : Int) - 1 = (pre.length : Int) := by simp [Tm.enc]
  simp only [Tm.enc, List.length_singleton] at hd
  rw [e, rdM, hget, w64 (x := ((d + 1 : Nat) : Int) - 1) (by omega) (by omega), w64 (x := (pre.length : Int) - 1) (by omega) (by omega), show ((d + 1 : Nat) : Int) - 1 = (d : Int) by omega]
  refine ev_pos (by omega) ?_
  refine ev_pos (by omega) ?_
  refine ev_pos (by omega) ?_
  refine ev_pos (by rcases ht with h | h <;> omega) ?_
  exact h
 | neg t ih =>
  intro pre post d ht hl hd h
  refine Ev.step (fun k => by rw [spec_l2Starts.l0]) ?_
  have hlen : L.length = pre.length + t.enc.length + 1 + post.length := by rw [hl]; simp [Tm.enc]; omega
  have hget : L.getD (pre.length + t.enc.length) zM = ⟨2, 0⟩ := by
   rw [hl]
   simp only [Tm.enc, List.append_assoc, List.singleton_append]
   rw [← List.append_assoc]
   have := getD_at zM (pre ++ t.enc) ⟨2, 0⟩ post
   rwa [List.length_append] at this
  have e : ((pre.length + (Tm.neg t).enc.length : Nat) : Int) - 1 = ((pre.length + t.enc.length : Nat) : Int) := by simp [Tm.enc]; omega
  simp only [Tm.enc, List.length_append, List.length_singleton] at hd
  rw [e, rdM, hget, w64 (x := ((pre.length + t.enc.length : Nat) : Int) - 1) (by omega) (by omega)]
  refine ev_pos (by omega) ?_
  refine ev_pos (by omega) ?_
  refine ev_pos (by omega) ?_
  refine ev_neg (by decide) ?_
  refine ev_neg (by decide) ?_
  exact ih pre (⟨2, 0⟩ :: post) d ht (by rw [hl]; simp [Tm.enc]) (by omega) h
 | bin c a b iha ihb =>
  intro pre post d ht hl hd h
  obtain ⟨hc, ha, hb⟩ := ht
  refine Ev.step (fun k => by rw [spec_l2Starts.l0]) ?_
  have hlen : L.length = pre.length + a.enc.length + b.enc.length + 1 + post.length := by rw [hl]; simp [Tm.enc]; omega
  have hget : L.getD (pre.length + a.enc.length + b.enc.length) zM = ⟨c, 0⟩ := by
   rw [hl]
   simp only [Tm.enc, List.append_assoc, List.singleton_append]
   rw [← List.append_assoc, ← List.append_assoc]
   have := getD_at zM ((pre ++ a.enc) ++ b.enc) ⟨c, 0⟩ post
   rwa [List.length_append, List.length_append] at this
  have e : ((pre.length + (Tm.bin c a b).enc.length : Nat) : Int) - 1 = ((pre.length + a.enc.length + b.enc.length : Nat) : Int) := by simp [Tm.enc]; omega
  simp only [Tm.enc, List.length_append, List.length_singleton] at hd
  rw [e, rdM, hget, w64 (x := ((pre.length + a.enc.length + b.enc.length : Nat) : Int) - 1) (by omega) (by omega), w64s (by omega)]
  refine ev_pos (by omega) ?_
  refine ev_pos (by omega) ?_
  refine ev_pos (by omega) ?_
  refine ev_neg (by dsimp only; omega) ?_
  refine ev_pos (by dsimp only; omega) ?_
  have h2 := iha pre (b.enc ++ ⟨c, 0⟩ :: post) d ha (by rw [hl]; simp [Tm.enc]) (by omega) h
  rw [← List.length_append] at h2 ⊢
  exact ihb (pre ++ a.enc) (⟨c, 0⟩ :: post) (d + 1) hb (by rw [hl]; simp [Tm.enc]) (by omega) h2
theorem spec_holdsE (n : Int) (hn : n ≤ 4) (w : Nat) (hw : w < 16) (t : Tm) : t.Ok n → t.enc.length ≤ 1000 → Ev (fun k => spec_l3Holds.f k t.enc (w : Int)) (t.val w) := by
 induction t with
 | leaf m =>
  intro ht hl
  refine Ev.step (fun k => by rw [spec_l3Holds.f]) ?_
  have e : wrap64 (((Tm.leaf m).enc.length : Int) - 1) = ((0 : Nat) : Int) := by simp [Tm.enc, wrap64]
  have g : (Tm.leaf m).enc.getD 0 zM = m := rfl
  rw [e, rdM, g]
  have hlen : (Tm.leaf m).enc.length = 1 := rfl
  refine ev_pos (by omega) ?_
  refine ev_pos (by omega) ?_
  simp only [Tm.val]
  rcases ht with ⟨h0, h1, h2⟩ | ⟨h0, h1, h2⟩
  ·refine ev_pos h0 ?_
   refine ev_pos h1 (ev_ret ?_)
   rw [if_pos h0, show m.f1 = ((m.f1.toNat : Nat) : Int) by omega, shr_tmod2 w m.f1.toNat (by omega), beq_one, Int.toNat_natCast]
  ·refine ev_neg (by omega) ?_
   refine ev_pos h0 ?_
   refine ev_bind (spec_headsE w hw) (ev_ret ?_)
   rw [if_neg (by omega)]
 | neg t ih =>
  intro ht hl
  refine Ev.step (fun k => by rw [spec_l3Holds.f]) ?_
  have hlen : (Tm.neg t).enc.length = t.enc.length + 1 := by simp [Tm.enc]
  have g : (Tm.neg t).enc.getD t.enc.length zM = ⟨2, 0⟩ := getD_last zM t.enc ⟨2, 0⟩
  rw [hlen, w64 (x := ((t.enc.length + 1 : Nat) : Int) - 1) (by omega) (by omega), show ((t.enc.length + 1 : Nat) : Int) - 1 = (t.enc.length : Int) by omega, rdM, g, Int.toNat_natCast]
  have tk : (Tm.neg t).enc.take t.enc.length = t.enc := by simp [Tm.enc]
  rw [tk]
  refine ev_pos (by omega) ?_
  refine ev_pos (by omega) ?_
  refine ev_neg (by decide) ?_
  refine ev_neg (by decide) ?_
  refine ev_pos rfl ?_
  refine ev_pos (by omega) ?_
  exact ev_bind (ih ht (by omega)) (ev_ret rfl)
 | bin c a b iha ihb =>
  intro ht hl
  obtain ⟨hc, ha, hb⟩ := ht
  refine Ev.step (fun k => by rw [spec_l3Holds.f]) ?_
  have hbp := b.enc_pos
  have hlen : (Tm.bin c a b).enc.length = a.enc.length + b.enc.length + 1 := by simp [Tm.enc]; omega
  have g : (Tm.bin c a b).enc.getD (a.enc.length + b.enc.length) zM = ⟨c, 0⟩ := by
   have := getD_last zM (a.enc ++ b.enc) ⟨c, 0⟩
   rwa [List.length_append] at this
  rw [hlen, w64 (x := ((a.enc.length + b.enc.length + 1 : Nat) : Int) - 1) (by omega) (by omega), show ((a.enc.length + b.enc.length + 1 : Nat) : Int) - 1 = ((a.enc.length + b.enc.length : Nat) : Int) by omega, rdM, g,
   w64 (x := ((a.enc.length + b.enc.length : Nat) : Int) - 1) (by omega) (by omega), Int.toNat_natCast]
  have tk : (Tm.bin c a b).enc.take (a.enc.length + b.enc.length) = a.enc ++ b.enc := by
   rw [← List.length_append]
   exact List.take_left
  rw [tk]
  refine ev_pos (by omega) ?_
  refine ev_pos (by omega) ?_
  refine ev_neg (by dsimp only; omega) ?_
  refine ev_neg (by dsimp only; omega) ?_
  refine ev_neg (by dsimp only; omega) ?_
  have hst : Ev (fun k => spec_l2Starts.f k (Tm.bin c a b).enc (((a.enc.length + b.enc.length : Nat) : Int) - 1)) (a.enc.length : Int) := by
   unfold spec_l2Starts.f
   refine starts_l n (Tm.bin c a b).enc (by omega) (a.enc.length : Int) b a.enc [⟨c, 0⟩] 0 hb rfl (by omega) ?_
   refine Ev.step (fun k => by rw [spec_l2Starts.l0]) ?_
   refine ev_neg (by omega) (ev_ret ?_)
   rw [w64 (by omega) (by omega)]
   omega
  refine ev_bind hst ?_
  rw [Int.toNat_natCast]
  have tk2 : (Tm.bin c a b).enc.take a.enc.length = a.enc := by simp [Tm.enc]
  rw [tk2, List.drop_left]
  refine ev_pos (by omega) ?_
  refine ev_pos (by omega) ?_
  refine ev_bind (iha ha (by omega)) ?_
  refine ev_pos (by omega) ?_
  refine ev_pos (by omega) ?_
  refine ev_bind (ihb hb (by omega)) ?_
  simp only [Tm.val]
  rcases hc with rfl | rfl | rfl
  ·refine ev_pos rfl ?_
   by_cases hv : a.val w = true
   ·exact ev_pos hv (ev_ret (by simp [op2, hv]))
   ·exact ev_neg hv (ev_ret (by simp [op2, hv]))
  ·refine ev_neg (by decide) (ev_pos rfl ?_)
   by_cases hv : a.val w = true
   ·exact ev_pos hv (ev_ret (by simp [op2, hv]))
   ·exact ev_neg hv (ev_ret (by simp [op2, hv]))
  ·refine ev_neg (by decide) (ev_neg (by decide) (ev_ret (by simp [op2])))
end Go.Proofs.YtcaogllnbpmcgaaDoor.M

/- The reference's ClaimOk, StoryOk and l4May. -/
set_option linter.unusedVariables false
set_option linter.unusedSimpArgs false
namespace Go.Proofs.YtcaogllnbpmcgaaDoor.M
open Go Go.RowKit Go.Proofs.YtcaogllnbpmcgaaDoorW.PrintWords Go.Proofs.YtcaogllnbpmcgaaDoor.P
theorem spec_holdsT {n : Int} {l : List Mk} (h : TermP n l) (w : Nat) (hw : w < 16) : Ev (fun k => spec_l3Holds.f k l (w : Int)) (holdB l w) := by
 obtain ⟨t, ht, rfl⟩ := h.tree
 rw [holdB_enc n w t ht]
 exact spec_holdsE n h.1.2 w hw t ht (by have := h.2.1; omega)
theorem spec_mayE {n : Int} {l : List Mk} (h : TermP n l) (who : Int) (h0 : 0 ≤ who) (h4 : who < 4) (w : Nat) (hw : w < 16) : Ev (fun k => spec_l4May.f k who l (w : Int)) (mayB who.toNat l w) := by
 unfold spec_l4May.f
 refine ev_pos h0 ?_
 refine ev_bind (spec_holdsT h w hw) (ev_ret ?_)
 rw [show who = ((who.toNat : Nat) : Int) by omega, shr_tmod2 w who.toNat (by omega), beq_one]
 unfold mayB
 rw [Int.toNat_natCast]

end Go.Proofs.YtcaogllnbpmcgaaDoor.M

/- The tables of terms. -/
set_option linter.unusedVariables false
set_option linter.unusedSimpArgs false
namespace Go.Proofs.YtcaogllnbpmcgaaDoor.M
open Go Go.RowKit Go.Proofs.YtcaogllnbpmcgaaDoorW.PrintWords Go.Proofs.YtcaogllnbpmcgaaDoor.P
theorem spec_l3Table_l (n : Nat) (hn : n ≤ 4) (l : List Mk) (h : TermP n l) : ∀ d j, j + d = pw n →
  Ev (fun k => spec_l3Table.l0 k (n : Int) l ((tabN (holdB l) j : Nat) : Int) (j : Int)) ((tabN (holdB l) (pw n) : Nat) : Int) := by
 have hp := pwm4 hn
 intro d
 induction d with
 | zero =>
  intro j hj
  refine Ev.step (fun k => by rw [spec_l3Table.l0]) ?_
  rw [shl_nat n (by omega)]
  refine ev_pos (by omega) ?_
  refine ev_neg (by omega) (ev_ret ?_)
  rw [show j = pw n by omega]
 | succ d ih =>
  intro j hj
  refine Ev.step (fun k => by rw [spec_l3Table.l0]) ?_
  rw [shl_nat n (by omega), shl_nat j (by omega), w64s (by omega)]
  refine ev_pos (by omega) ?_
  refine ev_pos (by omega) ?_
  refine ev_bind (spec_holdsT h j (by omega)) ?_
  by_cases hb : holdB l j = true
  ·refine ev_pos hb ?_
   refine ev_pos (by omega) ?_
   rw [tabS' _ j (by omega) hb]
   exact ih (j + 1) (by omega)
  ·refine ev_neg hb ?_
   rw [tabZ' _ j (Bool.eq_false_iff.2 hb)]
   exact ih (j + 1) (by omega)
theorem spec_l3TableE (n : Nat) (l : List Mk) (h : TermP n l) : Ev (fun k => spec_l3Table.f k (n : Int) l) ((tabN (holdB l) (pw n) : Nat) : Int) :=
 spec_l3Table_l n (by have := h.1.2; omega) l h (pw n) 0 (by omega)
theorem impl_tableOfE (n : Nat) (l : List Mk) (h : TermP n l) : impl_TableOf.f (n : Int) l = some ((tabN (holdB l) (pw n) : Nat) : Int) := by
 unfold impl_TableOf.f
 rw [if_pos h]
 rfl
end Go.Proofs.YtcaogllnbpmcgaaDoor.M

/- Tables of claims and stories: the reference's. -/
set_option linter.unusedVariables false
set_option linter.unusedSimpArgs false
namespace Go.Proofs.YtcaogllnbpmcgaaDoor.M
open Go Go.RowKit Go.Proofs.YtcaogllnbpmcgaaDoorW.PrintWords Go.Proofs.YtcaogllnbpmcgaaDoor.P
theorem spec_l4Table_l (n : Nat) (hn : n ≤ 4) (who : Int) (l : List Mk) (h : ClaimP n who l) : ∀ d j, j + d = pw n →
  Ev (fun k => spec_l4Table.l0 k (n : Int) ((tabN (mayB who.toNat l) j : Nat) : Int) (j : Int) who l) ((tabN (mayB who.toNat l) (pw n) : Nat) : Int) := by
 have hp := pwm4 hn
 intro d
 induction d with
 | zero =>
  intro j hj
  refine Ev.step (fun k => by rw [spec_l4Table.l0]) ?_
  rw [shl_nat n (by omega)]
  refine ev_pos (by omega) ?_
  refine ev_neg (by omega) (ev_ret ?_)
  rw [show j = pw n by omega]
 | succ d ih =>
  intro j hj
  refine Ev.step (fun k => by rw [spec_l4Table.l0]) ?_
  rw [shl_nat n (by omega), shl_nat j (by omega), w64s (by omega)]
  refine ev_pos (by omega) ?_
  refine ev_pos (by omega) ?_
  refine ev_bind (spec_mayE h.2.2.1 who h.1 (by have := h.2.1; omega) j (by omega)) ?_
  by_cases hb : mayB who.toNat l j = true
  ·refine ev_pos hb ?_
   refine ev_pos (by omega) ?_
   rw [tabS' _ j (by omega) hb]
   exact ih (j + 1) (by omega)
  ·refine ev_neg hb ?_
   rw [tabZ' _ j (Bool.eq_false_iff.2 hb)]
   exact ih (j + 1) (by omega)
theorem spec_l4TableE (n : Nat) (c : Cl) (h : ClaimP n c.f0 c.f1) : Ev (fun k => spec_l4Table.f k (n : Int) c.f0 c.f1) ((tabC n c : Nat) : Int) :=
 spec_l4Table_l n (by have := h.2.2.1.1.2; omega) c.f0 c.f1 h (pw n) 0 (by omega)
end Go.Proofs.YtcaogllnbpmcgaaDoor.M

/- What is known of the people, as the reference has it (a row of -1, 0, 1) and as two sets; which worlds agree with it; by what a case is closed. -/
set_option linter.unusedVariables false
set_option linter.unusedSimpArgs false
namespace Go.Proofs.YtcaogllnbpmcgaaDoor.M
open Go Go.RowKit Go.Proofs.YtcaogllnbpmcgaaDoorW.PrintWords Go.Proofs.YtcaogllnbpmcgaaDoor.P
def knOf : List Int → Nat
 | [] => 0
 | x :: l => (if x < 0 then 0 else 1) + 2 * knOf l
def wdOf : List Int → Nat
 | [] => 0
 | x :: l => (if x = 1 then 1 else 0) + 2 * wdOf l
def allK : Nat → List (List Int)
 | 0 => [[]]
 | n + 1 => (allK n).flatMap fun l => [(-1) :: l, 0 :: l, 1 :: l]
def KnowP (n : Nat) (ks : List Int) : Prop := ks ∈ allK n
theorem knowP_iff (n : Nat) (ks : List Int) : KnowP n ks ↔ ks.length = n ∧ ∀ x ∈ ks, x = -1 ∨ x = 0 ∨ x = 1 := by
 unfold KnowP
 induction n generalizing ks with
 | zero =>
  simp only [allK, List.mem_singleton]
  constructor
  ·rintro rfl; simp
  ·exact fun h => List.eq_nil_of_length_eq_zero h.1
 | succ n ih =>
  simp only [allK, List.mem_flatMap]
  constructor
  ·rintro ⟨l, hl, h⟩
   have hl' := (ih l).1 hl
   simp only [List.mem_cons, List.not_mem_nil, or_false] at h
   rcases h with rfl | rfl | rfl <;> exact ⟨by simp [hl'.1], fun x hx => by
    rcases List.mem_cons.1 hx with rfl | hx
    ·simp
    ·exact hl'.2 x hx⟩
  ·rintro ⟨hlen, hall⟩
   cases ks with
   | nil => simp at hlen
   | cons x l =>
    refine ⟨l, (ih l).2 ⟨by simpa using hlen, fun y hy => hall y (List.mem_cons_of_mem _ hy)⟩, ?_⟩
    rcases hall x List.mem_cons_self with rfl | rfl | rfl <;> simp
theorem know_len {n : Nat} {ks : List Int} (h : KnowP n ks) : ks.length = n := ((knowP_iff n ks).1 h).1
theorem know_nothing (n : Nat) : KnowP n (List.replicate n (-1)) := (knowP_iff n _).2 ⟨by simp, fun x hx => .inl (List.eq_of_mem_replicate hx)⟩
theorem know_set {n : Nat} {ks : List Int} (h : KnowP n ks) (i : Nat) (x : Int) (hx : x = 0 ∨ x = 1) : KnowP n (ks.set i x) := by
 rw [knowP_iff] at h ⊢
 refine ⟨by rw [List.length_set]; exact h.1, fun y hy => ?_⟩
 rcases List.mem_or_eq_of_mem_set hy with hy | rfl
 ·exact h.2 y hy
 ·exact .inr hx
theorem nothing_of (n : Nat) (hn : n ≤ 4) : knOf (List.replicate n (-1)) = 0 ∧ wdOf (List.replicate n (-1)) = 0 := by
 rcases (by omega : n = 0 ∨ n = 1 ∨ n = 2 ∨ n = 3 ∨ n = 4) with rfl | rfl | rfl | rfl | rfl <;> decide
theorem know_facts (n : Nat) (hn : n ≤ 4) (ks : List Int) (h : KnowP n ks) : knOf ks < 16 ∧ wdOf ks < 16 ∧ ∀ i, i < n → ((knOf ks).testBit i = decide (0 ≤ ks.getD i 0)) ∧ (ks.getD i 0 < 0 → knOf (ks.set i 0) = knOf ks ||| 2 ^ i ∧ wdOf (ks.set i 0) = wdOf ks ∧ knOf (ks.set i 1) = knOf ks ||| 2 ^ i ∧ wdOf (ks.set i 1) = wdOf ks ||| 2 ^ i) := by
 have F : ∀ n : Fin 5, ∀ ks ∈ allK n.val, knOf ks < 16 ∧ wdOf ks < 16 ∧ ∀ i : Fin n.val, ((knOf ks).testBit i.val = decide (0 ≤ ks.getD i.val 0)) ∧ (ks.getD i.val 0 < 0 → knOf (ks.set i.val 0) = knOf ks ||| 2 ^ i.val ∧ wdOf (ks.set i.val 0) = wdOf ks ∧ knOf (ks.set i.val 1) = knOf ks ||| 2 ^ i.val ∧ wdOf (ks.set i.val 1) = wdOf ks ||| 2 ^ i.val) := by decide +kernel
 obtain ⟨h1, h2, h3⟩ := F ⟨n, by omega⟩ ks h
 exact ⟨h1, h2, fun i hi => h3 ⟨i, hi⟩⟩
theorem spec_nothingE (n : Nat) (hn : n ≤ 4) : Ev (fun k => spec_l11Nothing.f k (n : Int)) (List.replicate n (-1)) := by
 have F : ∀ n : Fin 5, spec_l11Nothing.f 20 (n.val : Int) = some (List.replicate n.val (-1)) := by decide +kernel
 exact Ev.of (fun k => spec_l11Nothing.mono (n : Int) k) (F ⟨n, by omega⟩)
theorem spec_agreeE (n : Nat) (h1 : 1 ≤ n) (hn : n ≤ 4) (ks : List Int) (h : KnowP n ks) : Ev (fun k => spec_l11Agree.f k (n : Int) ks) ((agreeN n (knOf ks) (wdOf ks) : Nat) : Int) := by
 have F : ∀ n : Fin 5, ∀ ks ∈ allK n.val, spec_l11Agree.f 120 (n.val : Int) ks = some ((agreeN n.val (knOf ks) (wdOf ks) : Nat) : Int) := by decide +kernel
 exact Ev.of (fun k => spec_l11Agree.mono (n : Int) ks k) (F ⟨n, by omega⟩ ks h)
def clQ_ (n : Nat) (s : List Cl) (t : List Mk) : Nat → Nat → Int → Bool := Q.clM n s.length (holdT t) (mayT s)
theorem spec_closesE (n : Nat) (s : List Cl) (t : List Mk) (hS : StoryP (n : Int) s) (hT : TermP (n : Int) t) (ks : List Int) (h : KnowP n ks) (tgt : Int) (h0 : tgt < 0) (hlo : -2 - (s.length : Int) ≤ tgt) :
  Ev (fun k => spec_l11Closes.f k (n : Int) s t tgt ks) (clQ_ n s t (knOf ks) (wdOf ks) tgt) := by
 have hn := hS.2.1
 have h6 := hS.2.2
 have hn4 : n ≤ 4 := by omega
 unfold spec_l11Closes.f
 refine ev_bind (spec_agreeE n (by omega) hn4 ks h) ?_
 by_cases hg : tgt = -1
 ·refine ev_pos hg (ev_bind (spec_l3TableE n t hT) (ev_ret ?_))
  rw [close_goal n _ _ hn4 (holdB t)]
  unfold clQ_ Q.clM
  rw [if_pos hg]
  rfl
 ·refine ev_neg hg ?_
  obtain ⟨i, hi⟩ : ∃ i : Nat, -2 - tgt = (i : Int) := ⟨(-2 - tgt).toNat, by omega⟩
  have e1 : wrap64 (-2 - tgt) = (i : Int) := by
   have := Go.Proofs.YtcaogllnbpmcgaaDoor.M.w64 (x := -2 - tgt) (by omega) (by omega)
   rw [this, hi]
  have e2 : wrap64 ((s.length : Int) - 1) = (s.length : Int) - 1 := Go.Proofs.YtcaogllnbpmcgaaDoor.M.w64 (by omega) (by omega)
  refine ev_bindc (l1InT _ _ _) ?_
  rw [e1, e2]
  by_cases hlt : i < s.length
  ·refine ev_pos (decide_eq_true (by omega)) (ev_pos (by omega) (ev_pos (by omega) ?_))
   rw [rdC]
   refine ev_bind (spec_l4TableE n _ (hS.1 i hlt)) (ev_ret ?_)
   have := close_claim n (knOf ks) (wdOf ks) hn4 (mayT s i)
   unfold clQ_ Q.clM
   rw [if_neg hg, if_pos (by omega), hi, Int.toNat_natCast]
   exact this
  ·refine ev_neg (by rw [decide_eq_true_iff]; omega) (ev_ret ?_)
   unfold clQ_ Q.clM
   rw [if_neg hg, if_neg (by omega)]
end Go.Proofs.YtcaogllnbpmcgaaDoor.M

/- The reference's StoryOk tells whether it is a story. -/
set_option linter.unusedVariables false
set_option linter.unusedSimpArgs false
namespace Go.Proofs.YtcaogllnbpmcgaaDoor.M
open Go Go.RowKit Go.Proofs.YtcaogllnbpmcgaaDoorW.PrintWords Go.Proofs.YtcaogllnbpmcgaaDoor.P
theorem spec_storyOk_l (n : Int) (hn : n ≤ 9223372036854775807) (s : List Cl) (hs : S64 s) : ∀ d i : Nat, i + d = s.length →
  Tells (fun k => spec_StoryOk.l0 k n s (i : Int)) ((∀ j, i ≤ j → j < s.length → ClaimP n (s.getD j zC).f0 (s.getD j zC).f1) ∧ (1 ≤ n ∧ n ≤ 4) ∧ s.length ≤ 6) := by
 intro d
 have hsl := hs.1
 induction d with
 | zero =>
  intro i hi
  refine Tells.step (fun k => by rw [spec_StoryOk.l0]) ?_
  refine Tells.neg (by omega) ?_
  refine Tells.bindc (l1InT n 1 4) ?_
  refine Tells.ite (fun h => Tells.dec ?_) (fun h => Tells.no fun h' => h (decide_eq_true h'.2.1))
  have h := of_decide_eq_true h
  exact ⟨fun h' => ⟨fun j h1 h2 => by omega, h, by omega⟩, fun h' => by omega⟩
 | succ d ih =>
  intro i hi
  refine Tells.step (fun k => by rw [spec_StoryOk.l0]) ?_
  rw [rdC, w64s (i := i) (by omega)]
  refine Tells.pos (by omega) ?_
  refine Tells.pos (by omega) ?_
  obtain ⟨b, hb, hi'⟩ := spec_claimOk n hn (s.getD i zC).f0 (s.getD i zC).f1 (hs.2 i).1 (hs.2 i).2
  refine Tells.bind hb ?_
  refine Tells.ite (fun h => ?_) (fun h => Tells.no fun h' => h (hi'.2 (h'.1 i (Nat.le_refl _) (by omega))))
  refine (ih (i + 1) (by omega)).iff ?_
  constructor
  ·intro h'
   refine ⟨fun j h1 h2 => ?_, h'.2⟩
   rcases Nat.eq_or_lt_of_le h1 with e | e
   ·exact e ▸ hi'.1 h
   ·exact h'.1 j e h2
  ·exact fun h' => ⟨fun j h1 h2 => h'.1 j (by omega) h2, h'.2⟩
theorem spec_storyOk (n : Int) (hn : n ≤ 9223372036854775807) (s : List Cl) (hs : S64 s) : Tells (fun k => spec_StoryOk.f k n s) (StoryP n s) := by
 unfold spec_StoryOk.f
 refine (spec_storyOk_l n hn s hs s.length 0 (by omega)).iff ?_
 exact ⟨fun h => ⟨fun j hj => h.1 j (by omega) hj, h.2⟩, fun h => ⟨fun j _ hj => h.1 j hj, h.2⟩⟩
end Go.Proofs.YtcaogllnbpmcgaaDoor.M

/- The reference's ProofOk: how many splits are come to, whether each is gone on to once. -/
set_option linter.unusedVariables false
set_option linter.unusedSimpArgs false
namespace Go.Proofs.YtcaogllnbpmcgaaDoor.Q
theorem vis_len (S : List Sp) (n : Nat) (cl : Nat → Nat → Int → Bool) : ∀ (f : Nat) (tgt : Int) (kn wd : Nat) (l : List Nat), visP S n cl f tgt kn wd = some l → (tgt < 0 → l = []) ∧ (0 ≤ tgt → tgt < S.length → l.length + 1 ≤ 2 ^ (S.length - tgt.toNat)) := by
 intro f
 induction f with
 | zero => intro tgt kn wd l h; simp [visP] at h
 | succ f ih =>
  intro tgt kn wd l h
  by_cases h0 : tgt < 0
  ·rw [vis_neg h0] at h
   refine ⟨fun _ => ?_, fun h1 => by omega⟩
   split at h
   ·exact (Option.some.inj h).symm
   ·cases h
  ·refine ⟨fun h1 => absurd h1 h0, fun _ hlt => ?_⟩
   obtain ⟨hn, hs, a, b, ha, hb, rfl⟩ := vis_some h0 h
   have hpos : ∀ m : Nat, 1 ≤ 2 ^ m := fun m => Nat.two_pow_pos m
   have e : S.length - tgt.toNat = (S.length - tgt.toNat - 1) + 1 := by omega
   have half : ∀ (x : Int) (c : List Nat) (kn wd : Nat), okN S x tgt → visP S n cl f x kn wd = some c → c.length + 1 ≤ 2 ^ (S.length - tgt.toNat - 1) := by
    intro x c kn wd hx hc
    rcases hx with hx | ⟨h1, h2⟩
    ·rw [(ih x kn wd c hc).1 hx]
     exact hpos _
    ·refine Nat.le_trans ((ih x kn wd c hc).2 (by omega) h2) (Nat.pow_le_pow_right (by decide) (by omega))
   have h1 := half _ a _ _ hs.1 ha
   have h2 := half _ b _ _ hs.2 hb
   rw [e, Nat.pow_succ, List.length_cons, List.length_append]
   omega
end Go.Proofs.YtcaogllnbpmcgaaDoor.Q
namespace Go.Proofs.YtcaogllnbpmcgaaDoor.M
open Go Go.RowKit Go.Proofs.YtcaogllnbpmcgaaDoorW.PrintWords Go.Proofs.YtcaogllnbpmcgaaDoor.P
section
variable (n : Nat) (s : List Cl) (t : List Mk) (fi : Int) (S : List Q.Sp)
/-- What the reference's check tells of a target. -/
def ChkR (o : Option (List Nat)) (r : Int × Bool) : Prop := match o with
 | some l => r = ((l.length : Int), true)
 | none => r.2 = false
theorem p15 (m : Nat) (h : m ≤ 15) : 2 ^ m ≤ 32768 := Nat.le_trans (Nat.pow_le_pow_right (by decide) h) (by decide)
theorem w_a (a : Nat) (ha : a + 1 ≤ 32768) : wrap64 (1 + (a : Int)) = 1 + (a : Int) := Go.Proofs.YtcaogllnbpmcgaaDoor.M.w64 (by omega) (by omega)
theorem w_ab (a b : Nat) (ha : a + 1 ≤ 32768) (hb : b + 1 ≤ 32768) : wrap64 (1 + (a : Int) + (b : Int)) = 1 + (a : Int) + (b : Int) := Go.Proofs.YtcaogllnbpmcgaaDoor.M.w64 (by omega) (by omega)
theorem side_bad (x4 x15 x16 x17 f0 f1 f2 : Int) (ks : List Int) (h : ¬ Q.okN S x17 x4) :
  Ev (fun k => spec_l11Checks.j2 k (n : Int) s t x4 ks x15 x16 x17 fi S f0 f1 f2) (0, false) := by
 unfold Q.okN at h
 refine Ev.step (fun k => by rw [spec_l11Checks.j2]) (ev_pos (by omega) ?_)
 by_cases h1 : x17 ≤ x4
 ·refine ev_pos h1 (Ev.step (fun k => by rw [spec_l11Checks.j3]) (ev_pos rfl (ev_ret rfl)))
 ·exact ev_neg h1 (Ev.step (fun k => by rw [spec_l11Checks.j3]) (ev_pos (decide_eq_true (by omega)) (ev_ret rfl)))
theorem side_ok (x4 x15 x16 x17 f1 f2 : Int) (f0 : Nat) (ks : List Int) (h : Q.okN S x17 x4) (h4 : 0 ≤ x4) (hf : f0 < ks.length) (hl : ks.length ≤ 4) (r R : Int × Bool) (hr : Ev (fun k => spec_l11Checks.f k (n : Int) s t fi S x17 (ks.set f0 x16)) r)
  (h1 : r.2 = true → Ev (fun k => spec_l11Checks.l0 k (n : Int) s t x4 ks (wrap64 (x15 + r.1)) (wrap64 (x16 + 1)) fi S (f0 : Int) f1 f2) R) (h2 : r.2 = false → R = (0, false)) :
  Ev (fun k => spec_l11Checks.j2 k (n : Int) s t x4 ks x15 x16 x17 fi S (f0 : Int) f1 f2) R := by
 unfold Q.okN at h
 have go : Ev (fun k => spec_l11Checks.j3 k (n : Int) s t x4 ks x15 x16 x17 false fi S (f0 : Int) f1 f2) R := by
  refine Ev.step (fun k => by rw [spec_l11Checks.j3]) (ev_neg (by decide) ?_)
  simp only [Option.bind_some, List.nil_append, Int.toNat_natCast]
  refine ev_pos (by simp; omega) (ev_pos (by omega) (ev_pos (by omega) ?_))
  refine ev_bind hr ?_
  cases hb : r.2 with
  | true => exact ev_pos rfl (h1 hb)
  | false => exact ev_neg (by decide) (ev_ret (h2 hb).symm)
 refine Ev.step (fun k => by rw [spec_l11Checks.j2]) ?_
 by_cases h3 : x17 ≥ 0
 ·refine ev_pos h3 (ev_neg (by omega) ?_)
  rw [show decide (x17 ≥ (S.length : Int)) = false from decide_eq_false (by omega)]
  exact go
 ·exact ev_neg h3 go
variable {n s t fi S}
set_option maxHeartbeats 1000000 in
theorem spec_checks (hS : StoryP (n : Int) s) (hT : TermP (n : Int) t) (h15 : S.length ≤ 15) : ∀ (f : Nat) (tgt : Int) (ks : List Int), 1 ≤ f → KnowP n ks → -9223372036854775808 ≤ tgt → (∀ i, i < S.length → -9223372036854775808 ≤ (S.getD i Q.zS).f1 ∧ -9223372036854775808 ≤ (S.getD i Q.zS).f2) →
  (tgt < 0 ∨ tgt < S.length ∧ (S.length : Int) < f + tgt) → ∃ r : Int × Bool, Ev (fun k => spec_l11Checks.f k (n : Int) s t fi S tgt ks) r ∧ ChkR (Q.visP S n (clQ n s t) f tgt (knOf ks) (wdOf ks)) r := by
 have hn := hS.2.1
 have h6 := hS.2.2
 have hn4 : n ≤ 4 := by omega
 intro f
 induction f with
 | zero => intro _ _ h; omega
 | succ f ih =>
  intro tgt ks _ hk hlo hR hf
  have hlen := know_len hk
  by_cases h0 : tgt < 0
  ·rw [Q.vis_neg h0]
   have e1 : wrap64 (-2 - (s.length : Int)) = -2 - (s.length : Int) := Go.Proofs.YtcaogllnbpmcgaaDoor.M.w64 (by omega) (by omega)
   by_cases h1 : tgt ≥ -2 - (s.length : Int)
   ·refine ⟨(0, clQ n s t (knOf ks) (wdOf ks) tgt), Ev.step (fun k => by rw [spec_l11Checks.f]) (ev_pos h0 (ev_pos (by rw [e1]; exact h1) (ev_bind (spec_closesE n s t hS hT ks hk tgt h0 h1) (ev_ret rfl)))), ?_⟩
    cases hc : clQ n s t (knOf ks) (wdOf ks) tgt with
    | true => rfl
    | false => rfl
   ·refine ⟨(0, false), Ev.step (fun k => by rw [spec_l11Checks.f]) (ev_pos h0 (ev_neg (by rw [e1]; exact h1) (ev_ret rfl))), ?_⟩
    have hc : clQ n s t (knOf ks) (wdOf ks) tgt = false := by
     unfold clQ Q.clM
     rw [if_neg (by omega), if_neg (by omega)]
    rw [hc]
    rfl
  ·obtain ⟨j, rfl⟩ : ∃ j : Nat, tgt = (j : Int) := ⟨tgt.toNat, by omega⟩
   have hj : j < S.length := by omega
   have hRj := hR j hj
   have e2 : wrap64 ((n : Int) - 1) = (n : Int) - 1 := Go.Proofs.YtcaogllnbpmcgaaDoor.M.w64 (by omega) (by omega)
   have hrd : rd_T68 S (j : Int) = S.getD j Q.zS := rdS S j
   obtain ⟨sp, hsp⟩ : ∃ x, S.getD j Q.zS = x := ⟨_, rfl⟩
   have bad : ¬ Q.nodeP S n (j : Int) (knOf ks) → ∃ r : Int × Bool, Ev (fun k => spec_l11Checks.f k (n : Int) s t fi S (j : Int) ks) r ∧ ChkR (Q.visP S n (clQ n s t) (f + 1) (j : Int) (knOf ks) (wdOf ks)) r := by
    intro hnode
    refine ⟨(0, false), Ev.step (fun k => by rw [spec_l11Checks.f]) (ev_neg h0 (ev_pos (by omega) (ev_pos (by omega) (ev_bindc (l1InT _ _ _) ?_)))), ?_⟩
    ·rw [e2, hrd]
     have stop : ∀ (x f0 f1 f2 : Int), Ev (fun k => spec_l11Checks.j0 k (n : Int) s t x ks true fi S f0 f1 f2) (0, false) := fun x f0 f1 f2 => Ev.step (fun k => by rw [spec_l11Checks.j0]) (ev_pos rfl (ev_ret rfl))
     by_cases hin : 0 ≤ (S.getD j Q.zS).f0 ∧ (S.getD j Q.zS).f0 ≤ (n : Int) - 1
     ·obtain ⟨i, hi⟩ : ∃ i : Nat, (S.getD j Q.zS).f0 = (i : Int) := ⟨(S.getD j Q.zS).f0.toNat, by omega⟩
      refine ev_pos (decide_eq_true hin) (ev_pos hin.1 (ev_pos (by omega) ?_))
      have hb := ((know_facts n hn4 ks hk).2.2 i (by omega)).1
      have : rd ks (S.getD j Q.zS).f0 ≥ 0 := by
       rw [hi, rdN]
       refine Classical.byContradiction fun h => hnode ?_
       unfold Q.nodeP
       rw [Int.toNat_natCast, hi, Int.toNat_natCast, hb]
       exact ⟨by omega, by omega, decide_eq_false (by omega)⟩
      rw [decide_eq_true this]
      exact stop _ _ _ _
     ·exact ev_neg (by rw [decide_eq_true_iff]; exact hin) (stop _ _ _ _)
    ·rw [Q.visP, if_neg h0, if_neg (fun h => hnode h.1)]
     rfl
   by_cases hnode : Q.nodeP S n (j : Int) (knOf ks)
   case neg => exact bad hnode
   have hnode' := hnode
   unfold Q.nodeP at hnode'
   rw [Int.toNat_natCast] at hnode'
   obtain ⟨i, hi⟩ : ∃ i : Nat, (S.getD j Q.zS).f0 = (i : Int) := ⟨(S.getD j Q.zS).f0.toNat, by omega⟩
   rw [hi, Int.toNat_natCast] at hnode'
   obtain ⟨hb, hset⟩ := (know_facts n hn4 ks hk).2.2 i (by omega)
   have hneg : ks.getD i 0 < 0 := by
    rw [hb, decide_eq_false_iff_not] at hnode'
    omega
   obtain ⟨k0, w0, k1, w1⟩ := hset hneg
   have hj0 : (0 : Int) ≤ (j : Int) := Int.natCast_nonneg j
   have hin : (i : Int) < (n : Int) := hnode'.2.1
   have hik : i < ks.length := by rw [hlen]; exact Int.ofNat_lt.1 hin
   have hk4 : ks.length ≤ 4 := by rw [hlen]; exact hn4
   have start : ∀ R, Ev (fun k => spec_l11Checks.l0 k (n : Int) s t (j : Int) ks 1 0 fi S (i : Int) (S.getD j Q.zS).f1 (S.getD j Q.zS).f2) R → Ev (fun k => spec_l11Checks.f k (n : Int) s t fi S (j : Int) ks) R := by
    intro R h
    refine Ev.step (fun k => by rw [spec_l11Checks.f]) (ev_neg h0 (ev_pos (by omega) (ev_pos (by omega) (ev_bindc (l1InT _ _ _) ?_))))
    rw [e2, hrd, hi]
    refine ev_pos (decide_eq_true (by omega)) (ev_pos (by omega) (ev_pos (by omega) ?_))
    rw [rdN, show decide (ks.getD i 0 ≥ 0) = false from decide_eq_false (by omega)]
    exact Ev.step (fun k => by rw [spec_l11Checks.j0]) (ev_neg (by decide) h)
   have first : ∀ R, Ev (fun k => spec_l11Checks.j2 k (n : Int) s t (j : Int) ks 1 0 (S.getD j Q.zS).f1 fi S (i : Int) (S.getD j Q.zS).f1 (S.getD j Q.zS).f2) R → Ev (fun k => spec_l11Checks.f k (n : Int) s t fi S (j : Int) ks) R := fun R h =>
    start R (Ev.step (fun k => by rw [spec_l11Checks.l0]) (ev_pos (by decide) (ev_neg (by decide) h)))
   have second : ∀ (m : Int) R, Ev (fun k => spec_l11Checks.j2 k (n : Int) s t (j : Int) ks m 1 (S.getD j Q.zS).f2 fi S (i : Int) (S.getD j Q.zS).f1 (S.getD j Q.zS).f2) R → Ev (fun k => spec_l11Checks.l0 k (n : Int) s t (j : Int) ks m 1 fi S (i : Int) (S.getD j Q.zS).f1 (S.getD j Q.zS).f2) R := fun m R h =>
    Ev.step (fun k => by rw [spec_l11Checks.l0]) (ev_pos (by decide) (ev_pos rfl h))
   have hoff : ∀ x, Q.okN S x (j : Int) → (x < 0 ∨ x < S.length ∧ (S.length : Int) < f + x) := by
    intro x hx
    rcases hx with hx | hx
    ·exact .inl hx
    ·exact .inr (by omega)
   have hvis : Q.visP S n (clQ n s t) (f + 1) (j : Int) (knOf ks) (wdOf ks) = if Q.sons S (j : Int) then
     (match Q.visP S n (clQ n s t) f (S.getD j Q.zS).f1 (knOf ks ||| 2 ^ i) (wdOf ks) with
     | none => none
     | some a => match Q.visP S n (clQ n s t) f (S.getD j Q.zS).f2 (knOf ks ||| 2 ^ i) (wdOf ks ||| 2 ^ i) with
      | none => none
      | some b => some (j :: (a ++ b))) else none := by
    rw [Q.visP, if_neg h0]
    by_cases hs : Q.sons S (j : Int)
    ·rw [if_pos ⟨hnode, hs⟩, if_pos hs]
     simp only [Int.toNat_natCast, hi]
     first | done | rfl
    ·rw [if_neg (fun h => hs h.2), if_neg hs]
   rw [hvis]
   have hsons : Q.sons S (j : Int) ↔ Q.okN S (S.getD j Q.zS).f1 (j : Int) ∧ Q.okN S (S.getD j Q.zS).f2 (j : Int) := by
    unfold Q.sons
    rw [Int.toNat_natCast]
   by_cases ho1 : Q.okN S (S.getD j Q.zS).f1 (j : Int)
   case neg =>
    rw [if_neg (fun h => ho1 (hsons.1 h).1)]
    exact ⟨(0, false), first _ (side_bad n s t fi S _ _ _ _ _ _ _ ks ho1), rfl⟩
   obtain ⟨r1, hr1, hc1⟩ := ih (S.getD j Q.zS).f1 (ks.set i 0) (by omega) (know_set hk i 0 (.inl rfl)) hRj.1 hR (hoff _ ho1)
   rw [k0, w0] at hc1
   cases hv1 : Q.visP S n (clQ n s t) f (S.getD j Q.zS).f1 (knOf ks ||| 2 ^ i) (wdOf ks) with
   | none =>
    rw [hv1] at hc1
    refine ⟨(0, false), first _ (side_ok n s t fi S _ _ _ _ _ _ _ ks ho1 hj0 hik hk4 r1 _ hr1 (fun h => by rw [show r1.2 = false from hc1] at h; cases h) (fun _ => rfl)), ?_⟩
    split <;> rfl
   | some a =>
    rw [hv1] at hc1
    obtain rfl : r1 = ((a.length : Int), true) := hc1
    have la : a.length + 1 ≤ 32768 := by
     rcases ho1 with h | h
     ·rw [(Q.vis_len S n _ f _ _ _ a hv1).1 h]; decide
     ·exact Nat.le_trans ((Q.vis_len S n _ f _ _ _ a hv1).2 (by omega) h.2) (p15 _ (by omega))
    have ea : wrap64 (1 + (a.length : Int)) = 1 + (a.length : Int) := w_a _ la
    have e01 : wrap64 ((0 : Int) + 1) = 1 := by decide +kernel
    by_cases ho2 : Q.okN S (S.getD j Q.zS).f2 (j : Int)
    case neg =>
     rw [if_neg (fun h => ho2 (hsons.1 h).2)]
     refine ⟨(0, false), first _ (side_ok n s t fi S _ _ _ _ _ _ _ ks ho1 hj0 hik hk4 _ _ hr1 (fun _ => ?_) (fun h => by cases h)), rfl⟩
     rw [e01]
     exact second _ _ (side_bad n s t fi S _ _ _ _ _ _ _ ks ho2)
    rw [if_pos (hsons.2 ⟨ho1, ho2⟩)]
    obtain ⟨r2, hr2, hc2⟩ := ih (S.getD j Q.zS).f2 (ks.set i 1) (by omega) (know_set hk i 1 (.inr rfl)) hRj.2 hR (hoff _ ho2)
    rw [k1, w1] at hc2
    cases hv2 : Q.visP S n (clQ n s t) f (S.getD j Q.zS).f2 (knOf ks ||| 2 ^ i) (wdOf ks ||| 2 ^ i) with
    | none =>
     rw [hv2] at hc2
     refine ⟨(0, false), first _ (side_ok n s t fi S _ _ _ _ _ _ _ ks ho1 hj0 hik hk4 _ _ hr1 (fun _ => ?_) (fun h => by cases h)), rfl⟩
     rw [e01]
     exact second _ _ (side_ok n s t fi S _ _ _ _ _ _ _ ks ho2 hj0 hik hk4 r2 _ hr2 (fun h => by rw [show r2.2 = false from hc2] at h; cases h) (fun _ => rfl))
    | some b =>
     rw [hv2] at hc2
     obtain rfl : r2 = ((b.length : Int), true) := hc2
     have lb : b.length + 1 ≤ 32768 := by
      rcases ho2 with h | h
      ·rw [(Q.vis_len S n _ f _ _ _ b hv2).1 h]; decide
      ·exact Nat.le_trans ((Q.vis_len S n _ f _ _ _ b hv2).2 (by omega) h.2) (p15 _ (by omega))
     refine ⟨((((j :: (a ++ b)).length : Nat) : Int), true), first _ (side_ok n s t fi S _ _ _ _ _ _ _ ks ho1 hj0 hik hk4 _ _ hr1 (fun _ => ?_) (fun h => by cases h)), rfl⟩
     rw [e01]
     refine second _ _ (side_ok n s t fi S _ _ _ _ _ _ _ ks ho2 hj0 hik hk4 _ _ hr2 (fun _ => ?_) (fun h => by cases h))
     have e12 : wrap64 ((1 : Int) + 1) = 2 := by decide +kernel
     rw [e12]
     refine Ev.step (fun k => by rw [spec_l11Checks.l0]) (ev_neg (by decide) (ev_ret ?_))
     have eab := w_ab a.length b.length la lb
     have elen : (((j :: (a ++ b)).length : Nat) : Int) = 1 + (a.length : Int) + (b.length : Int) := by
      rw [List.length_cons, List.length_append, Int.natCast_add, Int.natCast_add, Int.add_comm, Int.add_assoc]
      rfl
     rw [elen]
     show (wrap64 (wrap64 (1 + (a.length : Int)) + (b.length : Int)), true) = _
     rw [ea, eab]
end
end Go.Proofs.YtcaogllnbpmcgaaDoor.M

/- The reference's ProofOk is the program's. -/
set_option linter.unusedVariables false
set_option linter.unusedSimpArgs false
namespace Go.Proofs.YtcaogllnbpmcgaaDoor.M
open Go Go.RowKit Go.Proofs.YtcaogllnbpmcgaaDoorW.PrintWords Go.Proofs.YtcaogllnbpmcgaaDoor.P
def onceG (N : Nat) : List Bool → List Int → Bool
 | _, [] => true
 | seen, x :: xs => if x < 0 then onceG N seen xs else if (N : Int) ≤ x then false else if seen.getD x.toNat false = true then false else onceG N (seen.set x.toNat true) xs
def natL (xs : List Int) : List Nat := xs.flatMap fun x => if x < 0 then [] else [x.toNat]
theorem onceG_iff (N : Nat) : ∀ (xs : List Int) (seen : List Bool), seen.length = N → (onceG N seen xs = true ↔ (natL xs).Nodup ∧ ∀ x ∈ natL xs, x < N ∧ seen.getD x false = false) := by
 intro xs
 induction xs with
 | nil => intro seen _; simp [onceG, natL]
 | cons y ys ih =>
  intro seen hl
  unfold onceG
  by_cases h0 : y < 0
  ·have e : natL (y :: ys) = natL ys := by simp [natL, h0]
   rw [if_pos h0, e]
   exact ih seen hl
  ·have e : natL (y :: ys) = y.toNat :: natL ys := by simp [natL, h0]
   rw [if_neg h0, e]
   by_cases h1 : (N : Int) ≤ y
   ·rw [if_pos h1]
    constructor
    ·intro h; cases h
    ·intro h
     have := (h.2 y.toNat List.mem_cons_self).1
     omega
   ·rw [if_neg h1]
    by_cases h2 : seen.getD y.toNat false = true
    ·rw [if_pos h2]
     constructor
     ·intro h; cases h
     ·intro h
      have := (h.2 y.toNat List.mem_cons_self).2
      rw [h2] at this
      cases this
    ·rw [if_neg h2, ih _ (by rw [List.length_set]; exact hl), List.nodup_cons]
     have hy : seen.getD y.toNat false = false := by
      cases h : seen.getD y.toNat false with
      | false => rfl
      | true => exact absurd h h2
     constructor
     ·rintro ⟨hn, ha⟩
      have hnot : y.toNat ∉ natL ys := fun hm => by
       have := (ha _ hm).2
       rw [Q.set_get, if_pos ⟨rfl, by omega⟩] at this
       cases this
      refine ⟨⟨hnot, hn⟩, fun x hx => ?_⟩
      rcases List.mem_cons.1 hx with rfl | hx
      ·exact ⟨by omega, hy⟩
      ·have h3 := ha x hx
       rw [Q.set_get, if_neg (fun (h : x = y.toNat ∧ x < seen.length) => hnot (h.1 ▸ hx))] at h3
       exact h3
     ·rintro ⟨⟨hnot, hn⟩, ha⟩
      refine ⟨hn, fun x hx => ?_⟩
      have h3 := ha x (List.mem_cons_of_mem _ hx)
      rw [Q.set_get, if_neg (fun (h : x = y.toNat ∧ x < seen.length) => hnot (h.1 ▸ hx))]
      exact h3
def nextL (S : List Q.Sp) (i : Nat) : List Int := [(S.getD i Q.zS).f1, (S.getD i Q.zS).f2]
theorem natL_app (a b : List Int) : natL (a ++ b) = natL a ++ natL b := by simp [natL]
theorem natL_next (S : List Q.Sp) (l : List Nat) : natL (l.flatMap (nextL S)) = l.flatMap (Q.chil S) := by
 induction l with
 | nil => rfl
 | cons i l ih =>
  rw [List.flatMap_cons, List.flatMap_cons, natL_app, ih]
  congr 1
  simp [nextL, natL, Q.chil]
section
variable (fi : Int) (S : List Q.Sp)
theorem once_j (seen : List Bool) (hl : seen.length = S.length) (x4 x5 x6 : Int) (rest : List Int) (h : ∀ seen', seen'.length = S.length → Ev (fun k => spec_l11Once.l1 k seen' x4 (wrap64 (x5 + 1)) fi S) (onceG S.length seen' rest)) :
  Ev (fun k => spec_l11Once.j2 k seen x4 x5 x6 fi S) (onceG S.length seen (x6 :: rest)) := by
 refine Ev.step (fun k => by rw [spec_l11Once.j2]) ?_
 unfold onceG
 by_cases h0 : x6 < 0
 ·rw [if_pos h0]
  exact ev_pos h0 (h seen hl)
 ·rw [if_neg h0]
  refine ev_neg h0 ?_
  by_cases h1 : (S.length : Int) ≤ x6
  ·rw [if_pos h1]
   exact ev_pos h1 (ev_ret rfl)
  ·rw [if_neg h1]
   refine ev_neg h1 (ev_pos (by omega) (ev_pos (by omega) ?_))
   have e : rdOf false seen x6 = seen.getD x6.toNat false := rfl
   by_cases h2 : seen.getD x6.toNat false = true
   ·rw [if_pos h2]
    exact ev_pos (by rw [e]; exact h2) (ev_ret rfl)
   ·rw [if_neg h2]
    exact ev_neg (by rw [e]; exact h2) (h _ (by rw [List.length_set]; exact hl))
theorem once_l (hS : S.length ≤ 1000) : ∀ d i : Nat, i + d = S.length → ∀ seen, seen.length = S.length → Ev (fun k => spec_l11Once.l0 k seen (i : Int) fi S) (onceG S.length seen ((List.range' i d).flatMap (nextL S))) := by
 intro d
 induction d with
 | zero =>
  intro i hi seen hl
  refine Ev.step (fun k => by rw [spec_l11Once.l0]) (ev_neg (by omega) (ev_ret ?_))
  simp [onceG]
 | succ d ih =>
  intro i hi seen hl
  have hrd : rd_T68 S (i : Int) = S.getD i Q.zS := rdS S i
  have e01 : wrap64 ((0 : Int) + 1) = 1 := by decide +kernel
  have e12 : wrap64 ((1 : Int) + 1) = 2 := by decide +kernel
  refine Ev.step (fun k => by rw [spec_l11Once.l0]) (ev_pos (by omega) ?_)
  refine Ev.step (fun k => by rw [spec_l11Once.l1]) (ev_pos (by decide) (ev_pos (by omega) (ev_pos (by omega) (ev_neg (by decide) ?_))))
  rw [hrd]
  have e : (List.range' i (d + 1)).flatMap (nextL S) = (S.getD i Q.zS).f1 :: (S.getD i Q.zS).f2 :: (List.range' (i + 1) d).flatMap (nextL S) := by
   rw [List.range'_succ, List.flatMap_cons]
   rfl
  rw [e]
  refine once_j fi S seen hl _ _ _ _ fun seen1 hl1 => ?_
  rw [e01]
  refine Ev.step (fun k => by rw [spec_l11Once.l1]) (ev_pos (by decide) (ev_pos (by omega) (ev_pos (by omega) (ev_pos rfl ?_))))
  rw [hrd]
  refine once_j fi S seen1 hl1 _ _ _ _ fun seen2 hl2 => ?_
  rw [e12]
  refine Ev.step (fun k => by rw [spec_l11Once.l1]) (ev_neg (by decide) ?_)
  rw [w64s (by omega)]
  exact ih (i + 1) (by omega) seen2 hl2
theorem spec_once (hS : S.length ≤ 1000) : ∃ b : Bool, Ev (fun k => spec_l11Once.f k fi S) b ∧ (b = true ↔ Q.onceP S) := by
 refine ⟨onceG S.length (List.replicate ((S.length : Int)).toNat false) ((List.range' 0 S.length).flatMap (nextL S)), ?_, ?_⟩
 ·unfold spec_l11Once.f
  refine ev_pos (by omega) (ev_pos (by omega) ?_)
  exact once_l fi S hS S.length 0 (by omega) (List.replicate ((S.length : Int)).toNat false) (by rw [List.length_replicate, Int.toNat_natCast])
 ·rw [onceG_iff _ _ _ (by rw [List.length_replicate, Int.toNat_natCast]), natL_next, ← List.range_eq_range']
  unfold Q.onceP
  refine and_congr Iff.rfl ?_
  constructor
  ·intro h i hi x hx
   exact (h x (List.mem_flatMap.2 ⟨i, List.mem_range.2 hi, hx⟩)).1
  ·intro h x hx
   obtain ⟨i, hi, hx⟩ := List.mem_flatMap.1 hx
   exact ⟨h i (List.mem_range.1 hi) x hx, Q.rep_get _ _⟩
end
theorem spec_proofE (n : Int) (hnb : n ≤ 9223372036854775807) (s : List Cl) (h64 : S64 s) (t : List Mk) (ht : M64 t) (htl : t.length < 4611686018427387904) (fi : Int) (S : List Q.Sp) (hP : Prf64 s fi S) :
  ∃ b : Bool, Ev (fun k => spec_ProofOk.f k n s t fi S) b ∧ (b = true ↔ PrfOk n s t fi S) := by
 unfold spec_ProofOk.f
 have stop : Ev (fun k => spec_ProofOk.j0 k n s t true fi S) false := Ev.step (fun k => by rw [spec_ProofOk.j0]) (ev_pos rfl (ev_ret rfl))
 by_cases hS : StoryP n s
 case neg =>
  refine ⟨false, ev_bind ((spec_storyOk n hnb s h64).ev (b := false) ⟨fun h => (by cases h), fun h => absurd h hS⟩) (ev_neg (by decide) stop), ⟨fun h => (by cases h), fun h => absurd h.1 hS⟩⟩
 have h1 := (spec_storyOk n hnb s h64).ev (b := true) ⟨fun _ => hS, fun _ => rfl⟩
 by_cases hT : TermP n t
 case neg =>
  refine ⟨false, ev_bind h1 (ev_pos rfl (ev_bind ((spec_termOk n hnb t ht htl).ev (b := false) ⟨fun h => (by cases h), fun h => absurd h hT⟩) (ev_neg (by decide) stop))), ⟨fun h => (by cases h), fun h => absurd h.2.1 hT⟩⟩
 have h2 := (spec_termOk n hnb t ht htl).ev (b := true) ⟨fun _ => hT, fun _ => rfl⟩
 have go : ∀ {b : Bool}, Ev (fun k => if (S.length : Int) > 15 then (spec_ProofOk.j0 k n s t true fi S) else (if fi > 0 then (spec_ProofOk.j0 k n s t true fi S) else (if fi = 0 then (spec_ProofOk.j0 k n s t ((S.length : Int) == 0) fi S) else (spec_ProofOk.j0 k n s t false fi S)))) b →
   Ev (fun k => (spec_StoryOk.f k n s).bind fun t355 => (if t355 = true then ((spec_TermOk.f k n t).bind fun t356 => (if t356 = true then (if (S.length : Int) > 15 then (spec_ProofOk.j0 k n s t true fi S) else (if fi > 0 then (spec_ProofOk.j0 k n s t true fi S) else (if fi = 0 then (spec_ProofOk.j0 k n s t ((S.length : Int) == 0) fi S) else (spec_ProofOk.j0 k n s t false fi S)))) else (spec_ProofOk.j0 k n s t true fi S))) else (spec_ProofOk.j0 k n s t true fi S))) b :=
  fun h => ev_bind h1 (ev_pos rfl (ev_bind h2 (ev_pos rfl h)))
 by_cases hl : S.length ≤ 15
 case neg => exact ⟨false, go (ev_pos (by omega) stop), ⟨fun h => (by cases h), fun h => absurd h.2.2.1 hl⟩⟩
 have hn := hS.2.1
 obtain ⟨m, rfl⟩ : ∃ m : Nat, n = (m : Int) := ⟨n.toNat, by omega⟩
 -- First is no target: neither
 have none0 : ∀ {fi : Int}, ¬ Q.okN S fi (-1) → ¬ PrfOk (m : Int) s t fi S := by
  intro fi h hp
  have := hp.2.2.2.2.1
  rw [Int.toNat_natCast, Q.chkI] at this
  unfold Q.okN at h
  rw [if_neg (by omega), if_pos (by omega)] at this
  cases this
 by_cases hf1 : fi > 0
 ·refine ⟨false, go (ev_neg (by omega) (ev_pos hf1 stop)), ⟨fun h => (by cases h), fun h => ?_⟩⟩
  by_cases h0 : 0 < S.length
  ·have := h.2.2.2.1 h0; omega
  ·exact absurd h (none0 (by unfold Q.okN; omega))
 by_cases hf2 : fi = 0 ∧ S.length = 0
 ·refine ⟨false, go (ev_neg (by omega) (ev_neg hf1 (ev_pos hf2.1 ?_))), ⟨fun h => (by cases h), fun h => ?_⟩⟩
  ·rw [show ((S.length : Int) == 0) = true by rw [hf2.2]; rfl]
   exact stop
  ·exact absurd h (none0 (by unfold Q.okN; omega))
 have hok : Q.okN S fi (-1) := by unfold Q.okN; omega
 have hoff : fi < 0 ∨ fi < S.length ∧ (S.length : Int) < ((S.length + 2 : Nat) : Int) + fi := by omega
 obtain ⟨r, hr, hc⟩ := spec_checks (s := s) (t := t) (fi := fi) (S := S) hS hT hl (S.length + 2) fi (List.replicate m (-1)) (by omega) (know_nothing m) hP.2.1 hP.2.2 hoff
 obtain ⟨k0, w0⟩ := nothing_of m (by omega)
 rw [k0, w0] at hc
 obtain ⟨bo, hbo, hob⟩ := spec_once fi S (by omega)
 have main : ∃ b : Bool, Ev (fun k => spec_ProofOk.j0 k (m : Int) s t false fi S) b ∧ (b = true ↔ PrfOk (m : Int) s t fi S) := by
  have hpp : PrfOk (m : Int) s t fi S ↔ (0 < S.length → fi = 0) ∧ ∃ l, Q.visP S m (clQ m s t) (S.length + 2) fi 0 0 = some l ∧ l.Nodup ∧ ∀ i, i < S.length → i ∈ l := by
   unfold PrfOk
   rw [Int.toNat_natCast, Q.okI_iff fi hok]
   exact ⟨fun h => ⟨h.2.2.2.1, h.2.2.2.2⟩, fun h => ⟨hS, hT, hl, h.1, h.2⟩⟩
  rw [hpp]
  cases hv : Q.visP S m (clQ m s t) (S.length + 2) fi 0 0 with
  | none =>
   rw [hv] at hc
   have hneg : ¬ r.2 = true := by rw [show r.2 = false from hc]; decide
   refine ⟨false, Ev.step (fun k => by rw [spec_ProofOk.j0]) (ev_neg (by decide) (ev_bind (spec_nothingE m (by omega)) (ev_bind hr (ev_neg hneg (ev_ret rfl))))), ⟨fun h => (by cases h), fun h => ?_⟩⟩
   obtain ⟨_, l, h, _⟩ := h
   cases h
  | some l =>
   rw [hv] at hc
   obtain rfl : r = ((l.length : Int), true) := hc
   have step : ∀ {b : Bool}, Ev (fun k => if ((l.length : Int)) = (S.length : Int) then ((spec_l11Once.f k fi S).bind fun t362 => (some t362)) else (some false)) b → Ev (fun k => spec_ProofOk.j0 k (m : Int) s t false fi S) b := fun h =>
    Ev.step (fun k => by rw [spec_ProofOk.j0]) (ev_neg (by decide) (ev_bind (spec_nothingE m (by omega)) (ev_bind hr (ev_pos rfl h))))
   have he : (∃ l', some l = some l' ∧ l'.Nodup ∧ ∀ i, i < S.length → i ∈ l') ↔ l.Nodup ∧ ∀ i, i < S.length → i ∈ l :=
    ⟨fun ⟨l', e, h⟩ => by cases e; exact h, fun h => ⟨l, rfl, h⟩⟩
   rw [he]
   by_cases hlen : (l.length : Int) = (S.length : Int)
   ·refine ⟨bo, step (ev_pos hlen (ev_bind hbo (ev_ret rfl))), ?_⟩
    by_cases hz : fi < 0
    ·have l0 := (Q.vis_len S m _ _ fi 0 0 l hv).1 hz
     subst l0
     have hS0 : S.length = 0 := by simp at hlen; omega
     have hSn : S = [] := List.eq_nil_of_length_eq_zero hS0
     rw [hob]
     subst hSn
     simp [Q.onceP]
    ·rw [hob, Q.all_once (S.length + 2) fi l (.inr (by omega)) (by omega) hv]
     refine ⟨fun h => ⟨fun _ => by omega, by omega, h⟩, fun h => h.2.2⟩
   ·refine ⟨false, step (ev_neg hlen (ev_ret rfl)), ⟨fun h => (by cases h), fun h => ?_⟩⟩
    by_cases hz : fi < 0
    ·have := (Q.vis_len S m _ _ fi 0 0 l hv).1 hz
     subst this
     have h0 : 0 < S.length := by simp at hlen; omega
     have := h.1 h0
     omega
    ·have := ((Q.all_once (S.length + 2) fi l (.inr (by omega)) (by omega) hv).1 h.2).1
     omega
 obtain ⟨b, hb, hib⟩ := main
 refine ⟨b, go (ev_neg (by omega) (ev_neg hf1 ?_)), hib⟩
 by_cases h0 : fi = 0
 ·refine ev_pos h0 ?_
  rw [show ((S.length : Int) == 0) = false from beq_eq_false_iff_ne.2 (by omega)]
  exact hb
 ·exact ev_neg h0 hb
end Go.Proofs.YtcaogllnbpmcgaaDoor.M

/- The program's ProofOk answers as it was told. -/
set_option linter.unusedVariables false
set_option linter.unusedSimpArgs false
namespace Go.Proofs.YtcaogllnbpmcgaaDoor.M
open Go Go.RowKit Go.Proofs.YtcaogllnbpmcgaaDoorW.PrintWords Go.Proofs.YtcaogllnbpmcgaaDoor.P
theorem impl_proofE (n : Int) (s : List Cl) (t : List Mk) (fi : Int) (S : List Q.Sp) (h : Prf64 s fi S) (b : Bool) (hb : b = true ↔ PrfOk n s t fi S) : impl_ProofOk.f n s t fi S = some b := by
 unfold impl_ProofOk.f
 rw [if_pos h]
 congr 1
 rw [Bool.eq_iff_iff, hb]
 exact @decide_eq_true_iff _ (Classical.propDecidable _)
end Go.Proofs.YtcaogllnbpmcgaaDoor.M

/- The text of a proof, as the program and as the reference write it. -/
set_option linter.unusedVariables false
set_option linter.unusedSimpArgs false
namespace Go.Proofs.YtcaogllnbpmcgaaDoor.M
open Go Go.RowKit Go.Proofs.YtcaogllnbpmcgaaDoorW.PrintWords Go.Proofs.YtcaogllnbpmcgaaDoor.P
def digS (j : Nat) : ByteArray := ⟨#[UInt8.ofNat (48 + j)]⟩
def letS (i : Nat) : ByteArray := ⟨#[UInt8.ofNat (97 + i)]⟩
/-- The text of a case. -/
def txtB (S : List Q.Sp) : Nat → Int → ByteArray
 | 0, _ => ⟨#[]⟩
 | f + 1, tgt => if tgt = -1 then ⟨#[42]⟩ else if tgt < 0 then digS (-2 - tgt).toNat
  else letS (S.getD tgt.toNat Q.zS).f0.toNat ++ ⟨#[40]⟩ ++ txtB S f (S.getD tgt.toNat Q.zS).f1 ++ ⟨#[44]⟩ ++ txtB S f (S.getD tgt.toNat Q.zS).f2 ++ ⟨#[41]⟩
theorem let_facts (i : Nat) (h : i < 4) : strOfNums [(wrap64 (97 + (i : Int))) % 256] = letS i ∧ (⟨#[97, 98, 99, 100]⟩ : ByteArray).extract i (i + 1) = letS i := by
 have F : ∀ i : Fin 4, strOfNums [(wrap64 (97 + (i.val : Int))) % 256] = letS i.val ∧ (⟨#[97, 98, 99, 100]⟩ : ByteArray).extract i.val (i.val + 1) = letS i.val := by decide +kernel
 exact F ⟨i, h⟩
theorem dig_facts (j : Nat) (h : j < 6) : strOfNums [(wrap64 (48 + (mx (j : Int) 0))) % 256] = digS j := by
 have F : ∀ j : Fin 6, strOfNums [(wrap64 (48 + (mx (j.val : Int) 0))) % 256] = digS j.val := by decide +kernel
 exact F ⟨j, h⟩
theorem letS_size (i : Nat) : (letS i).size = 1 := rfl
theorem digS_size (i : Nat) : (digS i).size = 1 := rfl
section
variable {n : Nat} {s : List Cl} {t : List Mk} {S : List Q.Sp} {fi : Int}
/-- What closes a case is told by one sign. -/
theorem cl_leaf {kn wd : Nat} {tgt : Int} (h0 : tgt < 0) (h : clQ n s t kn wd tgt = true) : tgt = -1 ∨ ∃ j : Nat, j < s.length ∧ tgt = -2 - (j : Int) := by
 unfold clQ Q.clM at h
 by_cases h1 : tgt = -1
 ·exact .inl h1
 ·rw [if_neg h1] at h
  by_cases h2 : 0 ≤ -2 - tgt ∧ -2 - tgt < (s.length : Int)
  ·exact .inr ⟨(-2 - tgt).toNat, by omega, by omega⟩
  ·rw [if_neg h2] at h; cases h
theorem txt_size : ∀ (f : Nat) (tgt : Int) (kn wd : Nat) (l : List Nat), Q.visP S n (clQ n s t) f tgt kn wd = some l → (txtB S f tgt).size = 5 * l.length + 1 := by
 intro f
 induction f with
 | zero => intro tgt kn wd l h; cases h
 | succ f ih =>
  intro tgt kn wd l h
  unfold txtB
  by_cases h0 : tgt < 0
  ·rw [Q.vis_neg h0] at h
   split at h
   ·cases h
    by_cases h1 : tgt = -1
    ·rw [if_pos h1]; rfl
    ·rw [if_neg h1, if_pos h0]; rfl
   ·cases h
  ·obtain ⟨hn, hs, a, b, ha, hb, rfl⟩ := Q.vis_some h0 h
   rw [if_neg (by omega), if_neg h0]
   simp only [ByteArray.size_append, letS_size, ih _ _ _ _ ha, ih _ _ _ _ hb, List.length_cons, List.length_append]
   show 1 + 1 + (5 * a.length + 1) + 1 + (5 * b.length + 1) + 1 = _
   omega
theorem txt_E (hn4 : n ≤ 4) (h6 : s.length ≤ 6) (h15 : S.length ≤ 15) : ∀ (f : Nat) (tgt : Int) (kn wd : Nat) (l : List Nat), (tgt < 0 ∨ tgt < S.length) → Q.visP S n (clQ n s t) f tgt kn wd = some l →
  Ev (fun k => impl_caseText.f k fi S tgt) (txtB S f tgt) ∧ Ev (fun k => spec_l11Text.f k fi S tgt) (txtB S f tgt) := by
 intro f
 induction f with
 | zero => intro tgt kn wd l _ h; cases h
 | succ f ih =>
  intro tgt kn wd l hto h
  unfold txtB
  by_cases h0 : tgt < 0
  ·rw [Q.vis_neg h0] at h
   split at h
   ·rename_i hc
    rcases cl_leaf h0 hc with rfl | ⟨j, hj, rfl⟩
    ·rw [if_pos rfl]
     exact ⟨Ev.step (fun k => by rw [impl_caseText.f]) (ev_pos rfl (ev_ret rfl)), Ev.step (fun k => by rw [spec_l11Text.f]) (ev_pos rfl (ev_ret rfl))⟩
    ·rw [if_neg (by omega), if_pos h0, show (-2 - (-2 - (j : Int))).toNat = j by omega]
     have e1 : wrap64 (-2 - (-2 - (j : Int))) = (j : Int) := by rw [Go.Proofs.YtcaogllnbpmcgaaDoor.M.w64 (by omega) (by omega)]; omega
     have eI : strconv_Itoa_56.f (j : Int) = some (digS j) := by
      unfold strconv_Itoa_56.f digS
      rw [if_pos (by omega), Int.toNat_natCast]
     refine ⟨Ev.step (fun k => by rw [impl_caseText.f]) (ev_neg (by omega) (ev_pos h0 ?_)), Ev.step (fun k => by rw [spec_l11Text.f]) (ev_neg (by omega) (ev_pos h0 ?_))⟩
     ·rw [e1]
      exact ev_bindc eI (ev_ret rfl)
     ·rw [e1]
      refine ev_bind (a := digS j) (Ev.step (fun k => by rw [spec_l1Number.f]) (ev_pos (by omega) (ev_ret ?_))) (ev_ret rfl)
      exact dig_facts j (by omega)
   ·cases h
  ·obtain ⟨i, rfl⟩ : ∃ i : Nat, tgt = (i : Int) := ⟨tgt.toNat, by omega⟩
   have hi : i < S.length := by omega
   obtain ⟨hnode, hs, a, b, ha, hb, rfl⟩ := Q.vis_some h0 h
   have e1 := hs.1
   have e2 := hs.2
   unfold Q.okN at e1 e2
   have la := (Q.vis_len S n _ f _ _ _ a ha)
   have lb := (Q.vis_len S n _ f _ _ _ b hb)
   have bound : ∀ {c : List Nat} {x : Int}, (x < 0 ∨ ((i : Int) < x ∧ x < S.length)) → ((x < 0 → c = []) ∧ (0 ≤ x → x < S.length → c.length + 1 ≤ 2 ^ (S.length - x.toNat))) → c.length ≤ 32768 := fun {c x} hx hc => by
    rcases hx with hx | hx
    ·rw [hc.1 hx]; exact Nat.zero_le _
    ·have := Nat.le_trans (hc.2 (by omega) hx.2) (p15 (S.length - x.toNat) (by omega))
     omega
   have ba := bound e1 la
   have bb := bound e2 lb
   obtain ⟨ia, sa⟩ := ih _ _ _ a (by omega) ha
   obtain ⟨ib, sb⟩ := ih _ _ _ b (by omega) hb
   have za := txt_size _ _ _ _ _ ha
   have zb := txt_size _ _ _ _ _ hb
   unfold Q.nodeP at hnode
   rw [Int.toNat_natCast] at hnode ia sa ib sb za zb ⊢
   obtain ⟨who, hw⟩ : ∃ who : Nat, (S.getD i Q.zS).f0 = (who : Int) := ⟨(S.getD i Q.zS).f0.toNat, by omega⟩
   have hw4 : who < 4 := by omega
   obtain ⟨f1, f2⟩ := let_facts who hw4
   have hrd : rd_T68 S (i : Int) = S.getD i Q.zS := rdS S i
   have ew : wrap64 ((who : Int) + 1) = ((who + 1 : Nat) : Int) := w64s (by omega)
   obtain ⟨A, hA⟩ : ∃ A, txtB S f (S.getD i Q.zS).f1 = A := ⟨_, rfl⟩
   obtain ⟨B, hB⟩ : ∃ B, txtB S f (S.getD i Q.zS).f2 = B := ⟨_, rfl⟩
   rw [hA] at ia sa za ⊢
   rw [hB] at ib sb zb ⊢
   rw [if_neg (by omega), if_neg h0, hw, Int.toNat_natCast]
   have sz : ∀ (x y : ByteArray), (x ++ y).size = x.size + y.size := fun x y => ByteArray.size_append
   have z40 : (⟨#[40]⟩ : ByteArray).size = 1 := rfl
   have z44 : (⟨#[44]⟩ : ByteArray).size = 1 := rfl
   refine ⟨Ev.step (fun k => by rw [impl_caseText.f]) (ev_neg (by omega) (ev_neg h0 (ev_pos (by omega) (ev_pos (by omega) (ev_bindc rfl ?_))))), Ev.step (fun k => by rw [spec_l11Text.f]) (ev_neg (by omega) (ev_neg h0 (ev_pos (by omega) (ev_pos (by omega) ?_))))⟩
   ·rw [hrd, hw, f1]
    refine ev_pos (by rw [letS_size]; decide) (ev_bind ia (ev_pos (by rw [sz, letS_size, z40, za]; omega) (ev_pos (by rw [sz, sz, letS_size, z40, za]; omega) (ev_bind ib (ev_pos (by rw [sz, sz, sz, letS_size, z40, z44, za, zb]; omega) (ev_pos (by rw [sz, sz, sz, sz, letS_size, z40, z44, za, zb]; omega) (ev_ret rfl)))))))
   ·rw [hrd, hw, ew, Int.toNat_natCast, Int.toNat_natCast, f2]
    refine ev_pos (by omega) (ev_pos (by omega) (ev_pos (by omega) (ev_pos (by rw [letS_size]; decide) (ev_bind sa (ev_pos (by rw [sz, letS_size, z40, za]; omega) (ev_pos (by rw [sz, sz, letS_size, z40, za]; omega) (ev_bind sb (ev_pos (by rw [sz, sz, sz, letS_size, z40, z44, za, zb]; omega) (ev_pos (by rw [sz, sz, sz, sz, letS_size, z40, z44, za, zb]; omega) (ev_ret rfl))))))))))
end
/-- What ProofText tells. -/
noncomputable def textF (n : Int) (s : List Cl) (t : List Mk) (fi : Int) (S : List Q.Sp) : ByteArray := @ite _ (PrfOk n s t fi S) (Classical.propDecidable _) (txtB S (S.length + 2) fi) ⟨#[]⟩
theorem prf_vis {n : Nat} {s : List Cl} {t : List Mk} {fi : Int} {S : List Q.Sp} (h : PrfOk (n : Int) s t fi S) : ∃ l, Q.visP S n (clQ n s t) (S.length + 2) fi 0 0 = some l ∧ l.Nodup ∧ ∀ i, i < S.length → i ∈ l := by
 have h5 := h.2.2.2.2
 rw [Int.toNat_natCast] at h5
 have hok : Q.okN S fi (-1) := by
  obtain ⟨c1, _⟩ := Q.chk_iff (S := S) (n := n) (cl := clQ n s t) (S.length + 2) fi (-1) 0 0 (List.replicate S.length false) (by simp) (by omega)
  exact (c1.1 h5.1).1
 exact (Q.okI_iff fi hok).1 h5
theorem prf_okN {n : Nat} {s : List Cl} {t : List Mk} {fi : Int} {S : List Q.Sp} (h : PrfOk (n : Int) s t fi S) : Q.okN S fi (-1) := by
 have h5 := h.2.2.2.2
 rw [Int.toNat_natCast] at h5
 obtain ⟨c1, _⟩ := Q.chk_iff (S := S) (n := n) (cl := clQ n s t) (S.length + 2) fi (-1) 0 0 (List.replicate S.length false) (by simp) (by omega)
 exact (c1.1 h5.1).1
theorem text_yes {n : Int} {s : List Cl} {t : List Mk} {fi : Int} {S : List Q.Sp} (h : PrfOk n s t fi S) : textF n s t fi S = txtB S (S.length + 2) fi := by
 unfold textF
 rw [if_pos h]
theorem text_no {n : Int} {s : List Cl} {t : List Mk} {fi : Int} {S : List Q.Sp} (h : ¬ PrfOk n s t fi S) : textF n s t fi S = ⟨#[]⟩ := by
 unfold textF
 rw [if_neg h]
theorem case_both {n : Int} {s : List Cl} {t : List Mk} {fi : Int} {S : List Q.Sp} (h : PrfOk n s t fi S) :
  Ev (fun k => impl_caseText.f k fi S fi) (textF n s t fi S) ∧ Ev (fun k => spec_l11Text.f k fi S fi) (textF n s t fi S) := by
 have hS := h.1
 have hn := hS.2.1
 obtain ⟨m, rfl⟩ : ∃ m : Nat, n = (m : Int) := ⟨n.toNat, by omega⟩
 rw [text_yes h]
 obtain ⟨l, hv, _⟩ := prf_vis h
 have hok := prf_okN h
 unfold Q.okN at hok
 exact txt_E (by omega) hS.2.2 h.2.2.1 _ _ _ _ l (by omega) hv
theorem impl_textE (n : Int) (s : List Cl) (t : List Mk) (fi : Int) (S : List Q.Sp) (h64 : Prf64 s fi S) (b : Bool) (hb : b = true ↔ PrfOk n s t fi S) : Ev (fun k => impl_ProofText.f k n s t fi S) (textF n s t fi S) := by
 unfold impl_ProofText.f
 refine ev_bindc (impl_proofE n s t fi S h64 b hb) ?_
 cases b with
 | true => exact ev_pos rfl (ev_bind (case_both (hb.1 rfl)).1 (ev_ret rfl))
 | false =>
  rw [text_no fun h => Bool.noConfusion (hb.2 h)]
  exact ev_neg (by decide) (ev_ret rfl)
theorem spec_textE (n : Int) (hnb : n ≤ 9223372036854775807) (s : List Cl) (h64 : S64 s) (t : List Mk) (ht : M64 t) (htl : t.length < 4611686018427387904) (fi : Int) (S : List Q.Sp) (hP : Prf64 s fi S) : Ev (fun k => spec_ProofText.f k n s t fi S) (textF n s t fi S) := by
 obtain ⟨b, hb, hi⟩ := spec_proofE n hnb s h64 t ht htl fi S hP
 unfold spec_ProofText.f
 refine ev_bind hb ?_
 cases b with
 | true => exact ev_pos rfl (ev_bind (case_both (hi.1 rfl)).2 (ev_ret rfl))
 | false =>
  rw [text_no fun h => Bool.noConfusion (hi.2 h)]
  exact ev_neg (by decide) (ev_ret rfl)
end Go.Proofs.YtcaogllnbpmcgaaDoor.M

/- The exact laws' helpers over marks. -/
set_option linter.unusedVariables false
set_option linter.unusedSimpArgs false
namespace Go.Proofs.YtcaogllnbpmcgaaDoor.M
open Go Go.RowKit Go.Proofs.YtcaogllnbpmcgaaDoorW.PrintWords Go.Proofs.YtcaogllnbpmcgaaDoor.P
abbrev LMk := S84
abbrev zLM : LMk := z84
theorem rdLM (s : List LMk) (i : Nat) : rd_T84 s (i : Int) = s.getD i zLM := by simp [rd_T84]
def toM (l : LMk) : Mk := ⟨l.f0, l.f1⟩
def toMs (l : List LMk) : List Mk := l.map toM
theorem toMs_len (l : List LMk) : (toMs l).length = l.length := by simp [toMs]
theorem sz_marks (l : List LMk) (a : Int) (hl : l.length ≤ maxLen) (h0 : 0 ≤ a) (h1 : a ≤ 1048576) : ∃ r, laws_szMarkS.f l a = some r ∧ r ≤ a ∧ (0 ≤ r → (l.length : Int) ≤ a) := by
 unfold maxLen at hl
 unfold laws_szMarkS.f
 rw [w64 (by omega) (by omega)]
 by_cases h : a - (l.length : Int) < 0
 ·exact ⟨-1, if_pos h, by omega, fun h => absurd h (by decide)⟩
 ·exact ⟨_, if_neg h, by omega, fun _ => by omega⟩
theorem to_marks_l (l : List LMk) (hn : l.length ≤ 1048576) : ∀ d i (x : List Mk), i + d = l.length → x.length = l.length → (∀ j, j < i → x.getD j zM = toM (l.getD j zLM)) → Ev (fun k => laws_toMarkS.l0 k l x (i : Int)) (toMs l) := by
 intro d
 induction d with
 | zero =>
  intro i x hi hx h
  refine Ev.step (fun k => by rw [laws_toMarkS.l0]) ?_
  refine ev_neg (by omega) (ev_ret (ext_getD zM x (toMs l) (by rw [toMs_len]; exact hx) fun j hj => ?_))
  rw [toMs_len] at hj
  rw [h j (by omega)]
  unfold toMs
  rw [getD_lt _ _ _ hj, getD_lt _ _ _ (by simpa using hj), List.getElem_map]
 | succ d ih =>
  intro i x hi hx h
  refine Ev.step (fun k => by rw [laws_toMarkS.l0]) ?_
  rw [w64s (by omega), rdLM, Int.toNat_natCast]
  refine ev_pos (by omega) ?_
  refine ev_pos (by omega) ?_
  refine ev_bindc (a := ((l.getD i zLM).f0, (l.getD i zLM).f1)) rfl ?_
  refine ev_pos (by omega) ?_
  refine ih (i + 1) _ (by omega) (by simpa using hx) fun j hj => ?_
  rw [set_getD zM x i _ (by omega)]
  split
  ·rename_i e
   rw [e]
   rfl
  ·exact h j (by omega)
theorem to_marks (l : List LMk) (hn : l.length ≤ 1048576) : Ev (fun k => laws_toMarkS.f k l) (toMs l) := by
 unfold laws_toMarkS.f
 rw [Int.toNat_natCast]
 refine ev_pos (by omega) ?_
 refine ev_pos (by omega) ?_
 exact to_marks_l l hn l.length 0 _ (by omega) (by simp) fun j hj => by omega
theorem wf_le {x : Int} (h : (Lit.int .i64 x).wf = true) : -9223372036854775808 ≤ x ∧ x ≤ 9223372036854775807 := by
 simp [Lit.wf, IntKind.min, IntKind.max, IntKind.bits, IntKind.signed] at h
 omega
theorem toMs64 (l : List LMk) (h : ∀ y1 ∈ l, ((Lit.int .i64 y1.f0).wf = true) ∧ ((Lit.int .i64 y1.f1).wf = true)) : M64 (toMs l) := by
 refine getD_all (toMs l) zM (fun m => m.f1 ≤ 9223372036854775807) (by decide) fun m hm => ?_
 obtain ⟨y, hy, rfl⟩ := List.mem_map.1 hm
 exact (wf_le (h y hy).2).2
end Go.Proofs.YtcaogllnbpmcgaaDoor.M

/- The exact laws' helpers over splits and proofs. -/
set_option linter.unusedVariables false
set_option linter.unusedSimpArgs false
namespace Go.Proofs.YtcaogllnbpmcgaaDoor.M
open Go Go.RowKit Go.Proofs.YtcaogllnbpmcgaaDoorW.PrintWords Go.Proofs.YtcaogllnbpmcgaaDoor.P
abbrev LSp := S114
abbrev zLS : LSp := z114
theorem rdLS (s : List LSp) (i : Nat) : rd_T114 s (i : Int) = s.getD i zLS := by simp [rd_T114]
def toS (l : LSp) : Q.Sp := ⟨l.f0, l.f1, l.f2⟩
def toSs (l : List LSp) : List Q.Sp := l.map toS
theorem toSs_len (l : List LSp) : (toSs l).length = l.length := by simp [toSs]
theorem sz_proof (x : Int) (l : List LSp) (a : Int) (hl : l.length ≤ maxLen) (h0 : 0 ≤ a) (h1 : a ≤ 1048576) : ∃ r, laws_szProof.f x l a = some r ∧ r ≤ a ∧ (0 ≤ r → (l.length : Int) ≤ a) := by
 unfold maxLen at hl
 unfold laws_szProof.f laws_szSplitS.f
 rw [w64 (by omega) (by omega)]
 by_cases h : a - (l.length : Int) < 0
 ·exact ⟨-1, by rw [if_pos h]; rfl, by omega, fun h => absurd h (by decide)⟩
 ·refine ⟨_, by rw [if_neg h, Option.bind_some, if_neg h], by omega, fun _ => by omega⟩
theorem to_splits_l (l : List LSp) (hn : l.length ≤ 1048576) : ∀ d i (x : List Q.Sp), i + d = l.length → x.length = l.length → (∀ j, j < i → x.getD j Q.zS = toS (l.getD j zLS)) → Ev (fun k => laws_toSplitS.l0 k l x (i : Int)) (toSs l) := by
 intro d
 induction d with
 | zero =>
  intro i x hi hx h
  refine Ev.step (fun k => by rw [laws_toSplitS.l0]) ?_
  refine ev_neg (by omega) (ev_ret (ext_getD Q.zS x (toSs l) (by rw [toSs_len]; exact hx) fun j hj => ?_))
  rw [toSs_len] at hj
  rw [h j (by omega)]
  unfold toSs
  rw [getD_lt _ _ _ hj, getD_lt _ _ _ (by simpa using hj), List.getElem_map]
 | succ d ih =>
  intro i x hi hx h
  refine Ev.step (fun k => by rw [laws_toSplitS.l0]) ?_
  rw [w64s (by omega), rdLS, Int.toNat_natCast]
  refine ev_pos (by omega) ?_
  refine ev_pos (by omega) ?_
  refine ev_bindc (a := ((l.getD i zLS).f0, (l.getD i zLS).f1, (l.getD i zLS).f2)) rfl ?_
  refine ev_pos (by omega) ?_
  refine ih (i + 1) _ (by omega) (by simpa using hx) fun j hj => ?_
  rw [set_getD Q.zS x i _ (by omega)]
  split
  ·rename_i e
   rw [e]
   rfl
  ·exact h j (by omega)
theorem to_proof (a : Int) (l : List LSp) (hn : l.length ≤ 1048576) : Ev (fun k => laws_toProof.f k a l) (a, toSs l) := by
 unfold laws_toProof.f laws_toSplitS.f
 refine ev_bind (a := toSs l) ?_ (ev_ret rfl)
 rw [Int.toNat_natCast]
 refine ev_pos (by omega) ?_
 refine ev_pos (by omega) ?_
 exact to_splits_l l hn l.length 0 _ (by omega) (by simp) fun j hj => by omega
theorem eq_splits_l (l : List Q.Sp) (hn : l.length < 4611686018427387904) : ∀ d i, i + d = l.length → Ev (fun k => laws_eqSplitS.l0 k l l (i : Int)) true := by
 intro d
 induction d with
 | zero =>
  intro i hi
  refine Ev.step (fun k => by rw [laws_eqSplitS.l0]) ?_
  exact ev_neg (by omega) (ev_ret rfl)
 | succ d ih =>
  intro i hi
  refine Ev.step (fun k => by rw [laws_eqSplitS.l0]) ?_
  rw [w64s (by omega)]
  refine ev_pos (by omega) ?_
  refine ev_pos (by omega) ?_
  refine ev_pos (by omega) ?_
  refine ev_bindc (a := true) (by unfold laws_eqSplit.f; simp) ?_
  exact ev_pos rfl (ih (i + 1) (by omega))
theorem eq_proof (a : Int) (l : List Q.Sp) (hn : l.length < 4611686018427387904) : Ev (fun k => laws_eqProof.f k a l a l) true := by
 unfold laws_eqProof.f laws_eqSplitS.f
 exact ev_pos rfl (ev_bind (ev_pos rfl (eq_splits_l l hn l.length 0 (by omega))) (ev_pos rfl (ev_ret rfl)))
end Go.Proofs.YtcaogllnbpmcgaaDoor.M

/- The exact laws' comparing of claims. -/
set_option linter.unusedVariables false
set_option linter.unusedSimpArgs false
namespace Go.Proofs.YtcaogllnbpmcgaaDoor.M
open Go Go.RowKit Go.Proofs.YtcaogllnbpmcgaaDoorW.PrintWords Go.Proofs.YtcaogllnbpmcgaaDoor.P
theorem eq_marks_l (l : List Mk) (hn : l.length < 4611686018427387904) : ∀ d i, i + d = l.length → Ev (fun k => laws_eqMarkS.l0 k l l (i : Int)) true := by
 intro d
 induction d with
 | zero =>
  intro i hi
  refine Ev.step (fun k => by rw [laws_eqMarkS.l0]) ?_
  exact ev_neg (by omega) (ev_ret rfl)
 | succ d ih =>
  intro i hi
  refine Ev.step (fun k => by rw [laws_eqMarkS.l0]) ?_
  rw [w64s (by omega)]
  refine ev_pos (by omega) ?_
  refine ev_pos (by omega) ?_
  refine ev_pos (by omega) ?_
  refine ev_bindc (a := true) (by unfold laws_eqMark.f; simp) ?_
  exact ev_pos rfl (ih (i + 1) (by omega))
theorem eq_marks (l : List Mk) (hn : l.length < 4611686018427387904) : Ev (fun k => laws_eqMarkS.f k l l) true := by
 unfold laws_eqMarkS.f
 exact ev_pos rfl (eq_marks_l l hn l.length 0 (by omega))
theorem eq_claims_l (l : List Cl) (hn : l.length < 4611686018427387904) (hm : ∀ j, (l.getD j zC).f1.length < 4611686018427387904) : ∀ d i, i + d = l.length → Ev (fun k => laws_eqClaimS.l0 k l l (i : Int)) true := by
 intro d
 induction d with
 | zero =>
  intro i hi
  refine Ev.step (fun k => by rw [laws_eqClaimS.l0]) ?_
  exact ev_neg (by omega) (ev_ret rfl)
 | succ d ih =>
  intro i hi
  refine Ev.step (fun k => by rw [laws_eqClaimS.l0]) ?_
  rw [w64s (by omega), rdC]
  refine ev_pos (by omega) ?_
  refine ev_pos (by omega) ?_
  refine ev_pos (by omega) ?_
  refine ev_bind (a := true) ?_ ?_
  ·unfold laws_eqClaim.f
   refine ev_pos rfl ?_
   exact ev_bind (eq_marks _ (hm i)) (ev_pos rfl (ev_ret rfl))
  ·exact ev_pos rfl (ih (i + 1) (by omega))
theorem eq_claims (l : List Cl) (hn : l.length < 4611686018427387904) (hm : ∀ j, (l.getD j zC).f1.length < 4611686018427387904) : Ev (fun k => laws_eqClaimS.f k l l) true := by
 unfold laws_eqClaimS.f
 exact ev_pos rfl (eq_claims_l l hn hm l.length 0 (by omega))
end Go.Proofs.YtcaogllnbpmcgaaDoor.M

/- The exact laws' helpers over claims: they measure, turn and compare. -/
set_option linter.unusedVariables false
set_option linter.unusedSimpArgs false
namespace Go.Proofs.YtcaogllnbpmcgaaDoor.M
open Go Go.RowKit Go.Proofs.YtcaogllnbpmcgaaDoorW.PrintWords Go.Proofs.YtcaogllnbpmcgaaDoor.P
abbrev LCl := S76
abbrev zLC : LCl := z76
theorem rdLC (s : List LCl) (i : Nat) : rd_T76 s (i : Int) = s.getD i zLC := by simp [rd_T76]
def toC (l : LCl) : Cl := ⟨l.f0, toMs l.f1⟩
def toCs (l : List LCl) : List Cl := l.map toC
theorem toCs_len (l : List LCl) : (toCs l).length = l.length := by simp [toCs]
theorem toCs_getD (l : List LCl) (i : Nat) (h : i < l.length) : (toCs l).getD i zC = toC (l.getD i zLC) := by
 unfold toCs
 rw [getD_lt _ _ _ (by simpa using h), getD_lt _ _ _ h, List.getElem_map]

/-! ### they measure -/
theorem sz_claim (who : Int) (l : List LMk) (a : Int) (hl : l.length ≤ maxLen) (h0 : 0 ≤ a) (h1 : a ≤ 1048576) : ∃ r, laws_szClaim.f who l a = some r ∧ r ≤ a ∧ (0 ≤ r → (l.length : Int) ≤ a) := by
 obtain ⟨r, e, hr, hl'⟩ := sz_marks l a hl h0 h1
 unfold laws_szClaim.f
 rw [e, Option.bind_some]
 by_cases h : r < 0
 ·exact ⟨-1, if_pos h, by omega, fun h => absurd h (by decide)⟩
 ·exact ⟨r, if_neg h, hr, hl'⟩
theorem sz_claims_l (s : List LCl) (hs : s.length ≤ 1048576) (hw : ∀ c ∈ s, c.f1.length ≤ maxLen) : ∀ d i (a : Int), i + d = s.length → 0 ≤ a → a ≤ 1048576 →
  ∃ r, Ev (fun k => laws_szClaimS.l0 k s a (i : Int)) r ∧ r ≤ a ∧ (0 ≤ r → ∀ j, i ≤ j → j < s.length → (s.getD j zLC).f1.length ≤ 1048576) := by
 intro d
 induction d with
 | zero =>
  intro i a hi h0 h1
  refine ⟨a, Ev.step (fun k => by rw [laws_szClaimS.l0]) ?_, Int.le_refl _, fun _ j h1 h2 => by omega⟩
  exact ev_neg (by omega) (ev_ret rfl)
 | succ d ih =>
  intro i a hi h0 h1
  obtain ⟨r, e, hr, hl⟩ := sz_claim (s.getD i zLC).f0 (s.getD i zLC).f1 a (hw _ (getD_mem s zLC i (by omega))) h0 h1
  have E := fun (r' : Int) (h : Ev (fun k => if r < 0 then some (-1) else laws_szClaimS.l0 k s r ((i + 1 : Nat) : Int)) r') => Ev.step (g := fun k => laws_szClaimS.l0 k s a (i : Int)) (r := r') (fun k => by rw [laws_szClaimS.l0]) (by
   rw [rdLC, w64s (i := i) (by omega)]
   refine ev_pos (by omega) ?_
   refine ev_pos (by omega) ?_
   exact ev_bindc e h)
  by_cases h : r < 0
  ·exact ⟨-1, E _ (ev_pos h (ev_ret rfl)), by omega, fun h => absurd h (by decide)⟩
  ·obtain ⟨r', e', hle, h'⟩ := ih (i + 1) r (by omega) (by omega) (by omega)
   refine ⟨r', E _ (ev_neg h e'), by omega, fun h0 j h1 h2 => ?_⟩
   rcases Nat.eq_or_lt_of_le h1 with e | e
   ·subst e
    have := hl (by omega)
    omega
   ·exact h' h0 j e h2
/-- A story that the laws don't leave out. -/
def Small (s : List LCl) : Prop := s.length ≤ 1048576 ∧ ∀ j, j < s.length → (s.getD j zLC).f1.length ≤ 1048576
theorem sz_claims2 (s : List LCl) (hs : s.length ≤ maxLen) (hw : ∀ c ∈ s, c.f1.length ≤ maxLen) : ∃ r, Ev (fun k => laws_szClaimS.f k s 1048576) r ∧ r ≤ 1048576 ∧ (0 ≤ r → Small s) := by
 unfold maxLen at hs
 unfold laws_szClaimS.f
 rw [w64 (by omega) (by omega)]
 by_cases h : 1048576 - (s.length : Int) < 0
 ·exact ⟨-1, ev_pos h (ev_ret rfl), by omega, fun h => absurd h (by decide)⟩
 ·obtain ⟨r, e, hle, h'⟩ := sz_claims_l s (by omega) hw s.length 0 (1048576 - (s.length : Int)) (by omega) (by omega) (by omega)
  exact ⟨r, ev_neg h e, by omega, fun h0 => ⟨by omega, fun j hj => h' h0 j (by omega) hj⟩⟩
theorem sz_claims (s : List LCl) (hs : s.length ≤ maxLen) (hw : ∀ c ∈ s, c.f1.length ≤ maxLen) : ∃ r, Ev (fun k => laws_szClaimS.f k s 1048576) r ∧ (0 ≤ r → Small s) := by
 obtain ⟨r, e, _, h⟩ := sz_claims2 s hs hw
 exact ⟨r, e, h⟩

/-! ### they turn -/
theorem to_claims_l (l : List LCl) (hn : Small l) : ∀ d i (x : List Cl), i + d = l.length → x.length = l.length → (∀ j, j < i → x.getD j zC = toC (l.getD j zLC)) → Ev (fun k => laws_toClaimS.l0 k l x (i : Int)) (toCs l) := by
 intro d
 have hl := hn.1
 induction d with
 | zero =>
  intro i x hi hx h
  refine Ev.step (fun k => by rw [laws_toClaimS.l0]) ?_
  refine ev_neg (by omega) (ev_ret (ext_getD zC x (toCs l) (by rw [toCs_len]; exact hx) fun j hj => ?_))
  rw [toCs_len] at hj
  rw [h j (by omega), toCs_getD l j hj]
 | succ d ih =>
  intro i x hi hx h
  refine Ev.step (fun k => by rw [laws_toClaimS.l0]) ?_
  rw [w64s (by omega), rdLC, Int.toNat_natCast]
  refine ev_pos (by omega) ?_
  refine ev_pos (by omega) ?_
  refine ev_bind (a := ((l.getD i zLC).f0, toMs (l.getD i zLC).f1)) ?_ ?_
  ·unfold laws_toClaim.f
   exact ev_bind (to_marks _ (hn.2 i (by omega))) (ev_ret rfl)
  refine ev_pos (by omega) ?_
  refine ih (i + 1) _ (by omega) (by simpa using hx) fun j hj => ?_
  rw [set_getD zC x i _ (by omega)]
  split
  ·rename_i e
   rw [e]
   rfl
  ·exact h j (by omega)
theorem to_claims (l : List LCl) (hn : Small l) : Ev (fun k => laws_toClaimS.f k l) (toCs l) := by
 have hl := hn.1
 unfold laws_toClaimS.f
 rw [Int.toNat_natCast]
 refine ev_pos (by omega) ?_
 refine ev_pos (by omega) ?_
 exact to_claims_l l hn l.length 0 _ (by omega) (by simp) fun j hj => by omega

/-! ### they compare -/
/-- What came in fits the machine. -/
def CWf (s : List LCl) : Prop := s.length ≤ maxLen ∧ ∀ y0 ∈ s, ((Lit.int .i64 y0.f0).wf = true) ∧ (y0.f1.length ≤ maxLen ∧ ∀ y1 ∈ y0.f1, ((Lit.int .i64 y1.f0).wf = true) ∧ ((Lit.int .i64 y1.f1).wf = true))
theorem toCs64 (s : List LCl) (h : CWf s) (hs : Small s) : S64 (toCs s) := by
 have hl := hs.1
 refine ⟨by rw [toCs_len]; omega, getD_all (toCs s) zC (fun c => M64 c.f1 ∧ c.f1.length < 4611686018427387904) ⟨?_, by decide⟩ fun c hc => ?_⟩
 ·intro i
  show (([] : List Mk).getD i zM).f1 ≤ 9223372036854775807
  rw [List.getD_nil]
  decide
 ·obtain ⟨y, hy, rfl⟩ := List.mem_map.1 hc
  have h2 := (h.2 y hy).2
  refine ⟨toMs64 _ h2.2, ?_⟩
  show (toMs y.f1).length < _
  rw [toMs_len]
  obtain ⟨j, hj, e⟩ := List.getElem_of_mem hy
  have := hs.2 j hj
  rw [getD_lt _ _ _ hj, e] at this
  omega
end Go.Proofs.YtcaogllnbpmcgaaDoor.M

/- The program's ProofText returns what the reference's returns, for all arguments, and leaves them as they were: no condition. -/
set_option linter.unusedVariables false
set_option linter.unusedSimpArgs false
namespace Go.Proofs.YtcaogllnbpmcgaaDoor.Pure
open Go Go.RowKit Go.Proofs.YtcaogllnbpmcgaaDoor.P Go.Proofs.YtcaogllnbpmcgaaDoorW.PrintWords Go.Proofs.YtcaogllnbpmcgaaDoorW.PrintLast Go.Proofs.YtcaogllnbpmcgaaDoor.M
theorem FnExactProofText : laws_FnExactProofText.Pure := by
  intro n s l fi S wn hs hl wf hSp
  refine Ev.rounds ?_
  unfold laws_FnExactProofText.f
  obtain ⟨r, hr, hr1, hsm⟩ := sz_claims2 s hs.1 fun c hc => (hs.2 c hc).2.1
  refine ev_bind hr ?_
  by_cases h0 : r < 0
  · exact ev_pos h0 (ev_ret rfl)
  refine ev_neg h0 ?_
  obtain ⟨r2, hr2, hr21, hl2⟩ := sz_marks l r hl.1 (by omega) (by omega)
  refine ev_bindc hr2 ?_
  by_cases h2 : r2 < 0
  · exact ev_pos h2 (ev_ret rfl)
  refine ev_neg h2 ?_
  obtain ⟨r3, hr3, _, hl3⟩ := sz_proof fi S r2 hSp.1 (by omega) (by omega)
  refine ev_bindc hr3 ?_
  by_cases h3 : r3 < 0
  · exact ev_pos h3 (ev_ret rfl)
  refine ev_neg h3 ?_
  have hsm := hsm (by omega)
  have h64 := toCs64 s hs hsm
  have hlen : l.length ≤ 1048576 := by have := hl2 (by omega); omega
  have hSlen : S.length ≤ 1048576 := by have := hl3 (by omega); omega
  have hl64 : M64 (toMs l) := toMs64 l hl.2
  have hll : (toMs l).length < 4611686018427387904 := by rw [toMs_len]; omega
  have hP : Prf64 (toCs s) fi (toSs S) := by
    refine ⟨h64.1, (wf_le wf).1, fun i hi => ?_⟩
    rw [toSs_len] at hi
    have e : (toSs S).getD i Q.zS = toS (S.getD i zLS) := by
      unfold toSs
      rw [getD_lt _ _ _ (by simpa using hi), getD_lt _ _ _ hi, List.getElem_map]
    rw [e]
    have hm : S.getD i zLS ∈ S := by rw [getD_lt _ _ _ hi]; exact List.getElem_mem hi
    have := hSp.2 _ hm
    exact ⟨(wf_le this.2.1).1, (wf_le this.2.2).1⟩
  refine ev_bind (to_claims s hsm) ?_
  refine ev_bind (to_marks l hlen) ?_
  refine ev_bind (to_proof fi S hSlen) ?_
  obtain ⟨b, hb, hib⟩ := spec_proofE n (wf_le wn).2 (toCs s) h64 (toMs l) hl64 hll fi (toSs S) hP
  refine ev_bind (spec_textE n (wf_le wn).2 (toCs s) h64 (toMs l) hl64 hll fi (toSs S) hP) ?_
  refine ev_bind (to_claims s hsm) ?_
  refine ev_bind (to_marks l hlen) ?_
  refine ev_bind (to_proof fi S hSlen) ?_
  refine ev_bind (impl_textE n (toCs s) (toMs l) fi (toSs S) hP b hib) ?_
  refine ev_pos rfl ?_
  refine ev_bind (to_claims s hsm) ?_
  refine ev_bind (eq_claims (toCs s) h64.1 fun j => (h64.2 j).2) ?_
  refine ev_pos rfl ?_
  refine ev_bind (to_marks l hlen) ?_
  refine ev_bind (eq_marks (toMs l) hll) ?_
  refine ev_pos rfl ?_
  refine ev_bind (to_proof fi S hSlen) ?_
  refine ev_bind (eq_proof fi (toSs S) (by rw [toSs_len]; omega)) ?_
  exact ev_pos rfl (ev_ret rfl)
end Go.Proofs.YtcaogllnbpmcgaaDoor.Pure

/- Written by our program myprint.py out of Lean's print of the translation: Go's function comes to just the answer of the Lean function told here. -/
namespace Go.Proofs.YtcaogllnbpmcgaaDoor.fnExactProofText
open Go.ChangeShapes Go.WideShapes Go.ChangeAt Go.RowKit
open Go.ChangeMaps (open_string shut_string)
set_option linter.unusedVariables false
theorem own : ownKnob Tryd.prog.godebug = none := by kernel_rfl
theorem laidOut : laidOutB Tryd.prog = true := by kernel_rfl
def IsRow (k : IntKind) (w : World) (a : Option Addr) (len cap : Nat) (zs : List Int) : Prop :=
  (a = none ∧ len = 0 ∧ cap = 0 ∧ zs = []) ∨
  ∃ x, a = some x ∧ len ≤ cap ∧ cap ≤ maxLen ∧ zs.length = cap ∧ (∀ i, i < zs.length → w.cell? (x.add i) = some (.int k (zs.getD i 0))) ∧ ∀ n ∈ zs, (Lit.int k n).wf = true
/-- The door's own heap meets the condition: closed facts. -/
theorem door_met (os : Os) (args : Array Value) : laidMetH Tryd.prog Rows.fnExactProofTextRow.laid ((World.doorLaid Tryd.prog 400 os).forCall (fun _ _ => 0) ⟨#[], args, []⟩).memory :=
  laidMetH_of_parts3 (fuel := 8) (laidMet_of_run' 8 (by kernel_rfl) (by kernel_rfl)) (by kernel_rfl) (by kernel_rfl)
set_option maxRecDepth 100000 in
theorem lifted (os : Os) (started : os.Started) (H : Type) (enc : TypeId × Value → H) :
    ReturnsInHanded {} Tryd.checked os 4 .any (fun w args => (Rows.fnExactProofTextSpec.pre enc Tryd.prog Tryd.f4 [] false w args ∧ laidMetH Tryd.prog Rows.fnExactProofTextRow.laid w) ∧ sizedMet enc Tryd.prog Tryd.f4 (OpenSpec.ofChange Rows.fnExactProofTextSpec) false w args) (Rows.fnExactProofTextSpec.post enc Tryd.prog Tryd.f4 false true false false) := by
  refine returnsInHanded_of_change_and (C := Tryd.checked) (X := fun w _ => laidMetH Tryd.prog Rows.fnExactProofTextRow.laid w) (fun _ _ _ hh h => h.of_heap hh) own started (by kernel_rfl) Tryd.func4
    (ChangeSpec.witness_shaped (enc := enc) (C := Tryd.checked) (os := os) (X := fun w _ => laidMetH Tryd.prog Rows.fnExactProofTextRow.laid w) false (World.doorLaid Tryd.prog 400 os) #[.int .i64 0, .slice none 0 0, .slice none 0 0, .agg #[.int .i64 0, .slice none 0 0]] 8 rfl (World.shaped_of_RefB (by kernel_rfl) (by kernel_rfl)) (by kernel_rfl) (by kernel_rfl) (by kernel_rfl) (door_met os _)) ?_
  intro W base args ds gs before hval0 hW hcnd hsz0 _ _
  have hsz : (DataW.weightsEach Tryd.prog (Tryd.f4.params.toList ++ Rows.fnExactProofTextSpec.plain.varTypes Tryd.prog) (ds ++ gs)).all (· ≤ reachBytes) = true := hsz0
  have hval : ∀ (j : Nat) t v, Tryd.f4.params[j]? = some t → args[j]? = some v → Value.okWide Tryd.prog W .any base t v := hval0
  have hW' := hW
  obtain ⟨p, q, hA0, hV, rfl, hfz, hnd⟩ := hW
  have hA : DataW.TrodAll enc Tryd.prog W 0 (fun _ => true) true Tryd.f4.params.toList args.toList ds p := hA0
  rw [Tryd.params4] at hA hval hsz
  obtain ⟨v0, vs0, d0, ds0, p0, q0, hargs, rfl, rfl, h0, r0⟩ := trodAll_cons hA
  obtain ⟨v1, vs1, d1, ds1, p1, q1, rfl, rfl, rfl, h1, r1⟩ := trodAll_cons r0
  obtain ⟨v2, vs2, d2, ds2, p2, q2, rfl, rfl, rfl, h2, r2⟩ := trodAll_cons r1
  obtain ⟨v3, vs3, d3, ds3, p3, q3, rfl, rfl, rfl, h3, r3⟩ := trodAll_cons r2
  obtain ⟨rfl, rfl, rfl⟩ := trodAll_nil r3
  obtain rfl : args = #[v0, v1, v2, v3] := by cases args; simp_all
  obtain ⟨rfl, rfl⟩ := trodVars_none hV
  obtain ⟨a0, rfl, rfl, rfl, w0⟩ := open_int Tryd.underlying3 (hval 0 3 v0 rfl rfl) h0
  obtain ⟨a1, len1, cap1, rfl⟩ := okWide_slice Tryd.underlying36 (hval 1 36 v1 rfl rfl)
  have k1 := h1
  have lt1 : ∀ x ∈ p1, x.block < W.heap.size := by obtain ⟨m, hm⟩ := k1; exact DataW.trod_lt m _ _ _ hm
  obtain ⟨l1, rfl, hc1, hr1, hw1⟩ := Open.top_slice (Open.opens_slice Tryd.underlying36 (by kernel_rfl) (Open.opens_two (fun a b => (⟨a, b⟩ : P.S76)) (wf := fun x => ((Lit.int .i64 x.f0).wf = true) ∧ (x.f1.length ≤ maxLen ∧ ∀ y0 ∈ x.f1, ((Lit.int .i64 y0.f0).wf = true) ∧ ((Lit.int .i64 y0.f1).wf = true))) Tryd.underlying75 (by kernel_rfl) (by kernel_rfl) (by kernel_rfl) (by kernel_rfl) (by kernel_rfl) (Open.opens_int Tryd.underlying3) (Open.opens_slice Tryd.underlying37 (by kernel_rfl) (Open.opens_two (fun a b => (⟨a, b⟩ : P.S84)) (wf := fun x => ((Lit.int .i64 x.f0).wf = true) ∧ ((Lit.int .i64 x.f1).wf = true)) Tryd.underlying81 (by kernel_rfl) (by kernel_rfl) (by kernel_rfl) (by kernel_rfl) (by kernel_rfl) (Open.opens_int Tryd.underlying3) (Open.opens_int Tryd.underlying3) (fun a b x y h0 h1 => by cases h0; cases h1; exact P.k84_mk W ⟨a, b⟩ ) (fun a b w0 w1 => ⟨w0, w1⟩))) (fun a b x y h0 h1 => by cases h0; obtain ⟨A1, c1, e1, l1, g1⟩ := h1; cases e1; exact P.k76_mk W ⟨a, b⟩ l1 g1) (fun a b w0 w1 => ⟨w0, w1⟩))) h1
  obtain ⟨a2, len2, cap2, rfl⟩ := okWide_slice Tryd.underlying37 (hval 2 37 v2 rfl rfl)
  have k2 := h2
  have lt2 : ∀ x ∈ p2, x.block < W.heap.size := by obtain ⟨m, hm⟩ := k2; exact DataW.trod_lt m _ _ _ hm
  obtain ⟨l2, rfl, hc2, hr2, hw2⟩ := Open.top_slice (Open.opens_slice Tryd.underlying37 (by kernel_rfl) (Open.opens_two (fun a b => (⟨a, b⟩ : P.S84)) (wf := fun x => ((Lit.int .i64 x.f0).wf = true) ∧ ((Lit.int .i64 x.f1).wf = true)) Tryd.underlying81 (by kernel_rfl) (by kernel_rfl) (by kernel_rfl) (by kernel_rfl) (by kernel_rfl) (Open.opens_int Tryd.underlying3) (Open.opens_int Tryd.underlying3) (fun a b x y h0 h1 => by cases h0; cases h1; exact P.k84_mk W ⟨a, b⟩ ) (fun a b w0 w1 => ⟨w0, w1⟩))) h2
  have k3 := h3
  have lt3 : ∀ x ∈ p3, x.block < W.heap.size := by obtain ⟨m, hm⟩ := k3; exact DataW.trod_lt m _ _ _ hm
  obtain ⟨xs3, ys3, b3, l3, rfl, hx3, hw3, hy3, hv3⟩ := Open.top_two Tryd.underlying40 (by kernel_rfl) (by kernel_rfl) (by kernel_rfl) (by kernel_rfl) (by kernel_rfl) (Open.opens_int Tryd.underlying3) (Open.opens_slice Tryd.underlying38 (by kernel_rfl) (Open.opens_three (fun a b c => (⟨a, b, c⟩ : P.S114)) (wf := fun x => ((Lit.int .i64 x.f0).wf = true) ∧ ((Lit.int .i64 x.f1).wf = true) ∧ ((Lit.int .i64 x.f2).wf = true)) Tryd.underlying67 (by kernel_rfl) (by kernel_rfl) (by kernel_rfl) (by kernel_rfl) (by kernel_rfl) (by kernel_rfl) (by kernel_rfl) (Open.opens_int Tryd.underlying3) (Open.opens_int Tryd.underlying3) (Open.opens_int Tryd.underlying3) (fun a b c x y z h0 h1 h2 => by cases h0; cases h1; cases h2; exact P.k114_mk W ⟨a, b, c⟩ ) (fun a b c w0 w1 w2 => ⟨w0, w1, w2⟩))) (hval 3 40 v3 rfl rfl) h3
  cases hx3
  obtain ⟨As3, cs3, ey3, hc3, hr3⟩ := hy3
  cases ey3
  clear hA0 hval0 hsz0 hsz
  refine (P.laws_FnExactProofText.walk Pure.FnExactProofText a0 a1 cap1 l1 a2 cap2 l2 b3 As3 cs3 l3 W hr1 hc1 hr2 hc2 hr3 hc3 w0 hw1 hw2 hw3 hv3).mono fun e W' ⟨he, bel⟩ => ?_
  subst he
  exact ⟨_, rfl, _, _, _, [], _, [], hW', trodAll_mk1 (shut_bool Tryd.underlying4 _), (trodAll_cons_mk (shut_int Tryd.underlying3 w0) (trodAll_cons_mk (Below.trod laidOut (by kernel_rfl) (of_decide_eq_true (by kernel_rfl)) k1 bel lt1) (trodAll_cons_mk (Below.trod laidOut (by kernel_rfl) (of_decide_eq_true (by kernel_rfl)) k2 bel lt2) (trodAll_cons_mk (Below.trod laidOut (by kernel_rfl) (of_decide_eq_true (by kernel_rfl)) k3 bel lt3) trodAll_mk0)))), rfl, bel.frame _, fun h => by cases h⟩
theorem closed : joinedFacts Tryd.prog 4 Tryd.f4 Rows.fnExactProofTextSpec Rows.fnExactProofTextRow = true := by
  unfold joinedFacts
  rw [Head.me, Head.mk, Head.lf]
  kernel_rfl
theorem over : Rows.fnExactProofTextRow.holds Tryd.pinned (OpenSpec.ofChange Rows.fnExactProofTextSpec) :=
  OpenClaim.holds_of_wide 4 Tryd.f4 rfl rfl rfl rfl rfl rfl rfl ⟨rfl, rfl, rfl, rfl, rfl⟩ rfl rfl rfl rfl rfl (by kernel_rfl) Tryd.func4 closed
    (of_decide_eq_true (by kernel_rfl)) (by unfold Func.isWrapper; first | (rw [if_pos (by decide +kernel)]; kernel_rfl) | (rw [if_neg (by decide +kernel)]; exact ⟨rfl, rfl⟩))
    (fun os started H enc _ => lifted os started H enc)
theorem proved : Rows.FnExactProofTextSaid := over
#print axioms proved
end Go.Proofs.YtcaogllnbpmcgaaDoor.fnExactProofText
namespace Go.Proofs.YtcaogllnbpmcgaaDoor
/-- The row, under a short name, for the claim. -/
theorem fnExactProofText_holds : Rows.FnExactProofTextSaid := fnExactProofText.proved
end Go.Proofs.YtcaogllnbpmcgaaDoor

namespace Go.Proofs.YtcaogllnbpmcgaaDoor.fnExactProofTextC
open Go
theorem who (f : FuncId) (fn : Func) (hf : Tryd.prog.funcNamed "loop.example/tellersandliars/laws.FnExactProofText" = some f) (hfn : Tryd.prog.funcs[f]? = some fn) : false = Tryd.prog.looks [] ∧ ∀ (j : Nat) t, fn.params[j]? = some t → Tryd.prog.wantsStandIn t = false := by
  obtain rfl : f = 4 := Option.some.inj ((show Tryd.prog.funcNamed "loop.example/tellersandliars/laws.FnExactProofText" = some 4 by kernel_rfl).symm.trans hf) |>.symm
  obtain rfl : fn = Tryd.f4 := (Option.some.inj (Tryd.func4.symm.trans hfn)).symm
  refine ⟨by kernel_rfl, fun j t ht => ?_⟩
  rw [Tryd.params4] at ht
  have hm : t ∈ [3, 36, 37, 40] := by
    have := Array.mem_of_getElem? ht
    simpa using this
  simp only [List.mem_cons, List.not_mem_nil, or_false] at hm
  rcases hm with rfl | rfl | rfl | rfl
  · exact (show Tryd.prog.wantsStandIn 3 = false by kernel_rfl)
  · exact (show Tryd.prog.wantsStandIn 36 = false by kernel_rfl)
  · exact (show Tryd.prog.wantsStandIn 37 = false by kernel_rfl)
  · exact (show Tryd.prog.wantsStandIn 40 = false by kernel_rfl)
end Go.Proofs.YtcaogllnbpmcgaaDoor.fnExactProofTextC
namespace Go.Proofs.YtcaogllnbpmcgaaDoor
open Go
/-- The tied card. -/
theorem fnExactProofTextCard_holds : Rows.FnExactProofTextCardSaid :=
  Claim7.holds_tied_plain_at .later [] [.data, .data, .data] true (true, "e0cbe189a45b692cac2a92c4bfa61719094ae2ce4ee3ed49ffae5867553291cd") false fnExactProofText.over (fun _ h => by cases h) (by kernel_rfl) (fun _ h => by cases h) fnExactProofText_row_tie rfl ⟨rfl, rfl⟩ (by kernel_rfl) rfl fnExactProofTextC.who (by kernel_rfl)
end Go.Proofs.YtcaogllnbpmcgaaDoor

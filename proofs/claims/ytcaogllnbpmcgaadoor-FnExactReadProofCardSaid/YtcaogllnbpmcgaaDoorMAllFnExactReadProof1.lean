/- What the proof of this law needs besides: texts of ours, one behind the other. -/
import Derived.Deep.Slices
import Derived.Deep.Strs
import Derived.ChangeSame
import Derived.ProofKit
import Derived.Test.YtcaogllnbpmcgaaDoorMAllFnExactReadProof4
import Derived.Test.YtcaogllnbpmcgaaDoorPx17
import Derived.Test.YtcaogllnbpmcgaaDoorPx28
import Derived.Test.YtcaogllnbpmcgaaDoorPx29
/- What comes in, opened by its type's shape: a slice of whatever can be opened reads as a list of what its elements read as. -/
set_option linter.unusedVariables false
set_option linter.unusedSimpArgs false
namespace Go.Proofs.YtcaogllnbpmcgaaDoor.Open
open Go Go.RowKit Go.Proofs.YtcaogllnbpmcgaaDoorW.PrintWords Go.Deep Go.ChangeShapes Go.WideShapes

/-- Whatever reads at this type is what the kind tells. -/
def Opens (P : Program) (w : World) (e : TypeId) {α : Type} (d : Kd α) (wf : α → Prop) : Prop :=
 ∀ (H : Type) (enc : TypeId × Value → H) (n : Nat) (cs : List Value) (x : DataW H × List MemPlace), DataW.trod enc P w 0 (fun _ => true) true n e cs = some x → ∃ a, d.K w a cs ∧ wf a
section
variable {P : Program} {w : World} {t e : TypeId}
theorem opens_int {k : IntKind} (ht : P.underlying t = some (.int k)) : Opens P w t (Kd.int k) (fun a => (Lit.int k a).wf = true) := fun H enc n cs x h => by
 obtain ⟨m, rfl, _, hw⟩ := DataW.trod_int ht h
 exact ⟨m, rfl, hw⟩
theorem opens_bool (ht : P.underlying t = some .bool) : Opens P w t Kd.bool (fun _ => True) := fun H enc n cs x h => by
 obtain ⟨m, rfl, _⟩ := DataW.trod_bool ht h
 exact ⟨m, rfl, trivial⟩
theorem list_of {α : Type} (n : Nat) (Q : Nat → α → Prop) (h : ∀ i, i < n → ∃ a, Q i a) : ∃ l : List α, l.length = n ∧ ∀ i a, l[i]? = some a → Q i a := by
 induction n with
 | zero => exact ⟨[], rfl, fun i a h => by simp at h⟩
 | succ n ih =>
  obtain ⟨l, hl, hq⟩ := ih fun i hi => h i (by omega)
  obtain ⟨a, ha⟩ := h n (by omega)
  refine ⟨l ++ [a], by simp [hl], fun i b hb => ?_⟩
  by_cases hi : i < n
  ·rw [List.getElem?_append_left (by omega)] at hb
   exact hq i b hb
  ·by_cases he : i = n
   ·subst he
    rw [List.getElem?_append_right (by omega), hl, Nat.sub_self] at hb
    simp at hb
    exact hb ▸ ha
   ·rw [List.getElem?_eq_none (by simp; omega)] at hb
    cases hb
theorem opens_slice {α : Type} {d : Kd α} {wf : α → Prop} (ht : P.underlying t = some (.slice e)) (hc : P.cellsOf e = d.sz) (he : Opens P w e d wf) :
  Opens P w t (Kd.slice e d) (fun l => l.length ≤ maxLen ∧ ∀ x ∈ l, wf x) := fun H enc n cs x h => by
 rcases open_slice ht h with ⟨rfl, _⟩ | ⟨a, len, cap, m, n', D, Pl, rfl, _, hl, hm, hmm, _, hx⟩
 ·exact ⟨[], ⟨none, 0, rfl, Nat.le_refl _, rfl, Nat.zero_le _, fun h => absurd h (Nat.lt_irrefl _)⟩, Nat.zero_le _, fun x hx => by cases hx⟩
 ·obtain ⟨l, hll, hq⟩ := list_of len (fun i p => (∃ c, c.length = d.sz ∧ d.K w p c ∧ ∀ j u, c[j]? = some u → w.cell? (a.add (i * d.sz + j)) = some u) ∧ wf p) fun i hi => by
   obtain ⟨cs', hcs, htr⟩ := hx i (by rw [hmm]; simp; omega)
   obtain ⟨p, hK, hw⟩ := he H enc n' cs' _ htr
   obtain ⟨_, hlen, hcell⟩ := World.cells?_some hcs
   refine ⟨p, ⟨cs', by omega, hK, fun j u hu => ?_⟩, hw⟩
   have hj : j < cs'.length := (List.getElem?_eq_some_iff.1 hu).1
   have := hcell j (by omega)
   rw [Go.Deep.add_add, hc] at this
   exact this.trans hu
  subst hll
  refine ⟨l, ⟨some a, cap, rfl, hl, rfl, by unfold maxLen at hm; omega, fun _ => ⟨a, rfl, fun j p hp => (hq j p hp).1⟩⟩, by omega, fun x hx => ?_⟩
  obtain ⟨j, hj, e⟩ := List.getElem_of_mem hx
  exact (hq j x (by rw [List.getElem?_eq_getElem hj, e])).2
/-- A slice that is a parameter. -/
theorem top_slice {α : Type} {d : Kd α} {wf : List α → Prop} {H : Type} {enc : TypeId × Value → H} {a : Option Addr} {len cap : Nat} {dd : DataW H} {pp : List MemPlace} (ho : Opens P w t (Kd.slice e d) wf)
  (h : DataW.Trod enc P w 0 (fun _ => true) true t (.slice a len cap) dd pp) : ∃ l : List α, len = l.length ∧ l.length ≤ cap ∧ d.C w a l.length l ∧ wf l := by
 obtain ⟨fuel, hf⟩ := h
 obtain ⟨l, ⟨A, c, hcs, hl, hC⟩, hw⟩ := ho H enc fuel _ _ hf
 have : Value.slice a len cap = Value.slice A l.length c := by simpa [Value.cells] using hcs
 injection this with h1 h2 h3
 subst h1
 subst h3
 exact ⟨l, h2, hl, hC, hw⟩
theorem opens_two {α β γ : Type} {d0 : Kd α} {d1 : Kd β} {d : Kd γ} {wf0 : α → Prop} {wf1 : β → Prop} {wf : γ → Prop} {f0 f1 : Field} (pair : α → β → γ) (ht : P.underlying t = some (.struct #[f0, f1])) (hc : P.cellsOf t = 2)
  (o0 : f0.offset = 0) (o1 : f1.offset = 1) (c0 : P.cellsOf f0.type = 1) (c1 : P.cellsOf f1.type = 1) (h0 : Opens P w f0.type d0 wf0) (h1 : Opens P w f1.type d1 wf1)
  (mk : ∀ a b x y, d0.K w a [x] → d1.K w b [y] → d.K w (pair a b) [x, y]) (hwf : ∀ a b, wf0 a → wf1 b → wf (pair a b)) : Opens P w t d wf := fun H enc n cs x h => by
 obtain ⟨y0, y1, m, _, hl, t0, t1⟩ := trod_struct2 ht h
 rw [o0, c0] at t0
 rw [o1, c1] at t1
 rw [hc] at hl
 match cs, hl with
 | [u, v], _ =>
  obtain ⟨a, ha, wa⟩ := h0 H enc m _ _ t0
  obtain ⟨b, hb, wb⟩ := h1 H enc m _ _ t1
  exact ⟨pair a b, mk a b u v ha hb, hwf a b wa wb⟩
theorem opens_three {α β γ δ : Type} {d0 : Kd α} {d1 : Kd β} {d2 : Kd γ} {d : Kd δ} {wf0 : α → Prop} {wf1 : β → Prop} {wf2 : γ → Prop} {wf : δ → Prop} {f0 f1 f2 : Field} (pair : α → β → γ → δ) (ht : P.underlying t = some (.struct #[f0, f1, f2])) (hc : P.cellsOf t = 3)
  (o0 : f0.offset = 0) (o1 : f1.offset = 1) (o2 : f2.offset = 2) (c0 : P.cellsOf f0.type = 1) (c1 : P.cellsOf f1.type = 1) (c2 : P.cellsOf f2.type = 1) (h0 : Opens P w f0.type d0 wf0) (h1 : Opens P w f1.type d1 wf1) (h2 : Opens P w f2.type d2 wf2)
  (mk : ∀ a b c x y z, d0.K w a [x] → d1.K w b [y] → d2.K w c [z] → d.K w (pair a b c) [x, y, z]) (hwf : ∀ a b c, wf0 a → wf1 b → wf2 c → wf (pair a b c)) : Opens P w t d wf := fun H enc n cs x h => by
 obtain ⟨y0, y1, y2, m, _, hl, t0, t1, t2⟩ := trod_struct3 ht h
 rw [o0, c0] at t0
 rw [o1, c1] at t1
 rw [o2, c2] at t2
 rw [hc] at hl
 match cs, hl with
 | [u, v, z], _ =>
  obtain ⟨a, ha, wa⟩ := h0 H enc m _ _ t0
  obtain ⟨b, hb, wb⟩ := h1 H enc m _ _ t1
  obtain ⟨c, hc, wc⟩ := h2 H enc m _ _ t2
  exact ⟨pair a b c, mk a b c u v z ha hb hc, hwf a b c wa wb wc⟩
end
end Go.Proofs.YtcaogllnbpmcgaaDoor.Open

/- The reference's ReadProof told. -/
set_option linter.unusedVariables false
set_option linter.unusedSimpArgs false
namespace Go.Proofs.YtcaogllnbpmcgaaDoor.M
open Go Go.RowKit Go.Proofs.YtcaogllnbpmcgaaDoorW.PrintWords Go.Proofs.YtcaogllnbpmcgaaDoor.P
theorem toList_iff (s t : ByteArray) : s.toList = t.toList ↔ s = t := by
 rw [Go.ByteArray.toList_eq, Go.ByteArray.toList_eq]
 constructor
 ·intro h
  cases s
  cases t
  congr 1
  exact Array.toList_inj.1 h
 ·intro h
  rw [h]
theorem spec_readProofE (n : Int) (hnb : n ≤ 9223372036854775807) (s : List Cl) (h64 : S64 s) (t : List Mk) (ht : M64 t) (htl : t.length < 4611686018427387904) (x : ByteArray) : Ev (fun k => spec_ReadProof.f k n s t x) (readF n s t x) := by
 unfold spec_ReadProof.f
 by_cases h2 : 200 < x.size
 ·refine ev_pos (by omega) (ev_ret ?_)
  unfold readF
  rw [if_pos h2]
 refine ev_neg (by omega) ?_
 obtain ⟨r, er, hR⟩ := spec_readE (s := x) (by omega) (x.size + 1) 0 [] (Nat.zero_le _) (by omega) (by decide)
 refine ev_bind er ?_
 rw [List.drop_zero] at hR
 have hR : ReadR x 0 [] (Q.readG 4 6 15 (x.size + 1) 0 (bl x)) r := hR
 rcases hR with ⟨h1, h3⟩ | ⟨a, y, j, hj1, hj2, ho, rfl⟩
 ·refine ev_neg (by omega) (ev_ret ?_)
  rw [readF_no x fun a y _ h => by rw [h1] at h; cases h]
 rw [List.nil_append]
 dsimp only
 by_cases hj : j = x.size
 case neg =>
  refine ev_neg (by omega) (ev_ret ?_)
  rw [readF_no x fun a' y' _ h => by
   rw [ho, bl_drop x j (by omega)] at h
   injection h with h
   injection h with _ h
   injection h with _ h
   cases h]
 rw [hj, bl_end x x.size (Nat.le_refl _)] at ho
 refine ev_pos (by omega) ?_
 have hp : Prf64 s y a := by
  obtain ⟨T, hT, _, hl, _⟩ := Q.readG_sound (by decide) _ _ _ _ _ _ ho
  obtain ⟨h1, h3⟩ := Q.lay_64 (by decide) T 0 hT
  rw [← hl] at h1 h3
  dsimp only at h1 h3
  refine ⟨h64.1, by omega, fun i hi => ?_⟩
  have := h3 _ (getD_mem a Q.zS i hi)
  omega
 refine ev_bind (spec_textE n hnb s h64 t ht htl y a hp) ?_
 have hi := text_iff (n := n) (s := s) (t := t) (by decide) ho
 by_cases hk : PrfOk n s t y a
 ·refine ev_pos ((toList_iff _ _).2 (hi.2 hk)) (ev_ret ?_)
  rw [readF_yes x (by omega) ho hk]
 ·refine ev_neg (fun h => hk (hi.1 ((toList_iff _ _).1 h))) (ev_ret ?_)
  rw [readF_no x fun a' y' _ h => by
   rw [ho] at h
   injection h with h
   injection h with h1 h
   injection h with h3 _
   rw [← h1, ← h3]
   exact hk]
end Go.Proofs.YtcaogllnbpmcgaaDoor.M

/- The exact laws' helpers over marks. -/
set_option linter.unusedVariables false
set_option linter.unusedSimpArgs false
namespace Go.Proofs.YtcaogllnbpmcgaaDoor.M
open Go Go.RowKit Go.Proofs.YtcaogllnbpmcgaaDoorW.PrintWords Go.Proofs.YtcaogllnbpmcgaaDoor.P
abbrev LMk := S84
abbrev zLM : LMk := z84
theorem rdLM (s : List LMk) (i : Nat) : rd_T84 s (i : Int) = s.getD i zLM := by simp [rd_T84]
def toM (l : LMk) : Mk := ⟨l.f0, l.f1⟩
def toMs (l : List LMk) : List Mk := l.map toM
theorem toMs_len (l : List LMk) : (toMs l).length = l.length := by simp [toMs]
theorem sz_marks (l : List LMk) (a : Int) (hl : l.length ≤ maxLen) (h0 : 0 ≤ a) (h1 : a ≤ 1048576) : ∃ r, laws_szMarkS.f l a = some r ∧ r ≤ a ∧ (0 ≤ r → (l.length : Int) ≤ a) := by
 unfold maxLen at hl
 unfold laws_szMarkS.f
 rw [w64 (by omega) (by omega)]
 by_cases h : a - (l.length : Int) < 0
 ·exact ⟨-1, if_pos h, by omega, fun h => absurd h (by decide)⟩
 ·exact ⟨_, if_neg h, by omega, fun _ => by omega⟩
theorem to_marks_l (l : List LMk) (hn : l.length ≤ 1048576) : ∀ d i (x : List Mk), i + d = l.length → x.length = l.length → (∀ j, j < i → x.getD j zM = toM (l.getD j zLM)) → Ev (fun k => laws_toMarkS.l0 k l x (i : Int)) (toMs l) := by
 intro d
 induction d with
 | zero =>
  intro i x hi hx h
  refine Ev.step (fun k => by rw [laws_toMarkS.l0]) ?_
  refine ev_neg (by omega) (ev_ret (ext_getD zM x (toMs l) (by rw [toMs_len]; exact hx) fun j hj => ?_))
  rw [toMs_len] at hj
  rw [h j (by omega)]
  unfold toMs
  rw [getD_lt _ _ _ hj, getD_lt _ _ _ (by simpa using hj), List.getElem_map]
 | succ d ih =>
  intro i x hi hx h
  refine Ev.step (fun k => by rw [laws_toMarkS.l0]) ?_
  rw [w64s (by omega), rdLM, Int.toNat_natCast]
  refine ev_pos (by omega) ?_
  refine ev_pos (by omega) ?_
  refine ev_bindc (a := ((l.getD i zLM).f0, (l.getD i zLM).f1)) rfl ?_
  refine ev_pos (by omega) ?_
  refine ih (i + 1) _ (by omega) (by simpa using hx) fun j hj => ?_
  rw [set_getD zM x i _ (by omega)]
  split
  ·rename_i e
   rw [e]
   rfl
  ·exact h j (by omega)
theorem to_marks (l : List LMk) (hn : l.length ≤ 1048576) : Ev (fun k => laws_toMarkS.f k l) (toMs l) := by
 unfold laws_toMarkS.f
 rw [Int.toNat_natCast]
 refine ev_pos (by omega) ?_
 refine ev_pos (by omega) ?_
 exact to_marks_l l hn l.length 0 _ (by omega) (by simp) fun j hj => by omega
theorem wf_le {x : Int} (h : (Lit.int .i64 x).wf = true) : -9223372036854775808 ≤ x ∧ x ≤ 9223372036854775807 := by
 simp [Lit.wf, IntKind.min, IntKind.max, IntKind.bits, IntKind.signed] at h
 omega
theorem toMs64 (l : List LMk) (h : ∀ y1 ∈ l, ((Lit.int .i64 y1.f0).wf = true) ∧ ((Lit.int .i64 y1.f1).wf = true)) : M64 (toMs l) := by
 refine getD_all (toMs l) zM (fun m => m.f1 ≤ 9223372036854775807) (by decide) fun m hm => ?_
 obtain ⟨y, hy, rfl⟩ := List.mem_map.1 hm
 exact (wf_le (h y hy).2).2
end Go.Proofs.YtcaogllnbpmcgaaDoor.M

/- The exact laws compare proofs. -/
set_option linter.unusedVariables false
set_option linter.unusedSimpArgs false
namespace Go.Proofs.YtcaogllnbpmcgaaDoor.M
open Go Go.RowKit Go.Proofs.YtcaogllnbpmcgaaDoorW.PrintWords Go.Proofs.YtcaogllnbpmcgaaDoor.P
theorem eq_splits_l (l : List Q.Sp) (hn : l.length < 4611686018427387904) : ∀ d i, i + d = l.length → Ev (fun k => laws_eqSplitS.l0 k l l (i : Int)) true := by
 intro d
 induction d with
 | zero =>
  intro i hi
  refine Ev.step (fun k => by rw [laws_eqSplitS.l0]) ?_
  exact ev_neg (by omega) (ev_ret rfl)
 | succ d ih =>
  intro i hi
  refine Ev.step (fun k => by rw [laws_eqSplitS.l0]) ?_
  rw [w64s (by omega)]
  refine ev_pos (by omega) ?_
  refine ev_pos (by omega) ?_
  refine ev_pos (by omega) ?_
  refine ev_bindc (a := true) (by unfold laws_eqSplit.f; simp) ?_
  exact ev_pos rfl (ih (i + 1) (by omega))
theorem eq_proof (a : Int) (l : List Q.Sp) (hn : l.length < 4611686018427387904) : Ev (fun k => laws_eqProof.f k a l a l) true := by
 unfold laws_eqProof.f laws_eqSplitS.f
 exact ev_pos rfl (ev_bind (ev_pos rfl (eq_splits_l l hn l.length 0 (by omega))) (ev_pos rfl (ev_ret rfl)))
end Go.Proofs.YtcaogllnbpmcgaaDoor.M

/- The exact laws' comparing of claims. -/
set_option linter.unusedVariables false
set_option linter.unusedSimpArgs false
namespace Go.Proofs.YtcaogllnbpmcgaaDoor.M
open Go Go.RowKit Go.Proofs.YtcaogllnbpmcgaaDoorW.PrintWords Go.Proofs.YtcaogllnbpmcgaaDoor.P
theorem eq_marks_l (l : List Mk) (hn : l.length < 4611686018427387904) : ∀ d i, i + d = l.length → Ev (fun k => laws_eqMarkS.l0 k l l (i : Int)) true := by
 intro d
 induction d with
 | zero =>
  intro i hi
  refine Ev.step (fun k => by rw [laws_eqMarkS.l0]) ?_
  exact ev_neg (by omega) (ev_ret rfl)
 | succ d ih =>
  intro i hi
  refine Ev.step (fun k => by rw [laws_eqMarkS.l0]) ?_
  rw [w64s (by omega)]
  refine ev_pos (by omega) ?_
  refine ev_pos (by omega) ?_
  refine ev_pos (by omega) ?_
  refine ev_bindc (a := true) (by unfold laws_eqMark.f; simp) ?_
  exact ev_pos rfl (ih (i + 1) (by omega))
theorem eq_marks (l : List Mk) (hn : l.length < 4611686018427387904) : Ev (fun k => laws_eqMarkS.f k l l) true := by
 unfold laws_eqMarkS.f
 exact ev_pos rfl (eq_marks_l l hn l.length 0 (by omega))
theorem eq_claims_l (l : List Cl) (hn : l.length < 4611686018427387904) (hm : ∀ j, (l.getD j zC).f1.length < 4611686018427387904) : ∀ d i, i + d = l.length → Ev (fun k => laws_eqClaimS.l0 k l l (i : Int)) true := by
 intro d
 induction d with
 | zero =>
  intro i hi
  refine Ev.step (fun k => by rw [laws_eqClaimS.l0]) ?_
  exact ev_neg (by omega) (ev_ret rfl)
 | succ d ih =>
  intro i hi
  refine Ev.step (fun k => by rw [laws_eqClaimS.l0]) ?_
  rw [w64s (by omega), rdC]
  refine ev_pos (by omega) ?_
  refine ev_pos (by omega) ?_
  refine ev_pos (by omega) ?_
  refine ev_bind (a := true) ?_ ?_
  ·unfold laws_eqClaim.f
   refine ev_pos rfl ?_
   exact ev_bind (eq_marks _ (hm i)) (ev_pos rfl (ev_ret rfl))
  ·exact ev_pos rfl (ih (i + 1) (by omega))
theorem eq_claims (l : List Cl) (hn : l.length < 4611686018427387904) (hm : ∀ j, (l.getD j zC).f1.length < 4611686018427387904) : Ev (fun k => laws_eqClaimS.f k l l) true := by
 unfold laws_eqClaimS.f
 exact ev_pos rfl (eq_claims_l l hn hm l.length 0 (by omega))
end Go.Proofs.YtcaogllnbpmcgaaDoor.M

/- The exact laws' helpers over claims: they measure, turn and compare. -/
set_option linter.unusedVariables false
set_option linter.unusedSimpArgs false
namespace Go.Proofs.YtcaogllnbpmcgaaDoor.M
open Go Go.RowKit Go.Proofs.YtcaogllnbpmcgaaDoorW.PrintWords Go.Proofs.YtcaogllnbpmcgaaDoor.P
abbrev LCl := S76
abbrev zLC : LCl := z76
theorem rdLC (s : List LCl) (i : Nat) : rd_T76 s (i : Int) = s.getD i zLC := by simp [rd_T76]
def toC (l : LCl) : Cl := ⟨l.f0, toMs l.f1⟩
def toCs (l : List LCl) : List Cl := l.map toC
theorem toCs_len (l : List LCl) : (toCs l).length = l.length := by simp [toCs]
theorem toCs_getD (l : List LCl) (i : Nat) (h : i < l.length) : (toCs l).getD i zC = toC (l.getD i zLC) := by
 unfold toCs
 rw [getD_lt _ _ _ (by simpa using h), getD_lt _ _ _ h, List.getElem_map]

/-! ### they measure -/
theorem sz_claim (who : Int) (l : List LMk) (a : Int) (hl : l.length ≤ maxLen) (h0 : 0 ≤ a) (h1 : a ≤ 1048576) : ∃ r, laws_szClaim.f who l a = some r ∧ r ≤ a ∧ (0 ≤ r → (l.length : Int) ≤ a) := by
 obtain ⟨r, e, hr, hl'⟩ := sz_marks l a hl h0 h1
 unfold laws_szClaim.f
 rw [e, Option.bind_some]
 by_cases h : r < 0
 ·exact ⟨-1, if_pos h, by omega, fun h => absurd h (by decide)⟩
 ·exact ⟨r, if_neg h, hr, hl'⟩
theorem sz_claims_l (s : List LCl) (hs : s.length ≤ 1048576) (hw : ∀ c ∈ s, c.f1.length ≤ maxLen) : ∀ d i (a : Int), i + d = s.length → 0 ≤ a → a ≤ 1048576 →
  ∃ r, Ev (fun k => laws_szClaimS.l0 k s a (i : Int)) r ∧ r ≤ a ∧ (0 ≤ r → ∀ j, i ≤ j → j < s.length → (s.getD j zLC).f1.length ≤ 1048576) := by
 intro d
 induction d with
 | zero =>
  intro i a hi h0 h1
  refine ⟨a, Ev.step (fun k => by rw [laws_szClaimS.l0]) ?_, Int.le_refl _, fun _ j h1 h2 => by omega⟩
  exact ev_neg (by omega) (ev_ret rfl)
 | succ d ih =>
  intro i a hi h0 h1
  obtain ⟨r, e, hr, hl⟩ := sz_claim (s.getD i zLC).f0 (s.getD i zLC).f1 a (hw _ (getD_mem s zLC i (by omega))) h0 h1
  have E := fun (r' : Int) (h : Ev (fun k => if r < 0 then some (-1) else laws_szClaimS.l0 k s r ((i + 1 : Nat) : Int)) r') => Ev.step (g := fun k => laws_szClaimS.l0 k s a (i : Int)) (r := r') (fun k => by rw [laws_szClaimS.l0]) (by
   rw [rdLC, w64s (i := i) (by omega)]
   refine ev_pos (by omega) ?_
   refine ev_pos (by omega) ?_
   exact ev_bindc e h)
  by_cases h : r < 0
  ·exact ⟨-1, E _ (ev_pos h (ev_ret rfl)), by omega, fun h => absurd h (by decide)⟩
  ·obtain ⟨r', e', hle, h'⟩ := ih (i + 1) r (by omega) (by omega) (by omega)
   refine ⟨r', E _ (ev_neg h e'), by omega, fun h0 j h1 h2 => ?_⟩
   rcases Nat.eq_or_lt_of_le h1 with e | e
   ·subst e
    have := hl (by omega)
    omega
   ·exact h' h0 j e h2
/-- A story that the laws don't leave out. -/
def Small (s : List LCl) : Prop := s.length ≤ 1048576 ∧ ∀ j, j < s.length → (s.getD j zLC).f1.length ≤ 1048576
theorem sz_claims2 (s : List LCl) (hs : s.length ≤ maxLen) (hw : ∀ c ∈ s, c.f1.length ≤ maxLen) : ∃ r, Ev (fun k => laws_szClaimS.f k s 1048576) r ∧ r ≤ 1048576 ∧ (0 ≤ r → Small s) := by
 unfold maxLen at hs
 unfold laws_szClaimS.f
 rw [w64 (by omega) (by omega)]
 by_cases h : 1048576 - (s.length : Int) < 0
 ·exact ⟨-1, ev_pos h (ev_ret rfl), by omega, fun h => absurd h (by decide)⟩
 ·obtain ⟨r, e, hle, h'⟩ := sz_claims_l s (by omega) hw s.length 0 (1048576 - (s.length : Int)) (by omega) (by omega) (by omega)
  exact ⟨r, ev_neg h e, by omega, fun h0 => ⟨by omega, fun j hj => h' h0 j (by omega) hj⟩⟩
theorem sz_claims (s : List LCl) (hs : s.length ≤ maxLen) (hw : ∀ c ∈ s, c.f1.length ≤ maxLen) : ∃ r, Ev (fun k => laws_szClaimS.f k s 1048576) r ∧ (0 ≤ r → Small s) := by
 obtain ⟨r, e, _, h⟩ := sz_claims2 s hs hw
 exact ⟨r, e, h⟩

/-! ### they turn -/
theorem to_claims_l (l : List LCl) (hn : Small l) : ∀ d i (x : List Cl), i + d = l.length → x.length = l.length → (∀ j, j < i → x.getD j zC = toC (l.getD j zLC)) → Ev (fun k => laws_toClaimS.l0 k l x (i : Int)) (toCs l) := by
 intro d
 have hl := hn.1
 induction d with
 | zero =>
  intro i x hi hx h
  refine Ev.step (fun k => by rw [laws_toClaimS.l0]) ?_
  refine ev_neg (by omega) (ev_ret (ext_getD zC x (toCs l) (by rw [toCs_len]; exact hx) fun j hj => ?_))
  rw [toCs_len] at hj
  rw [h j (by omega), toCs_getD l j hj]
 | succ d ih =>
  intro i x hi hx h
  refine Ev.step (fun k => by rw [laws_toClaimS.l0]) ?_
  rw [w64s (by omega), rdLC, Int.toNat_natCast]
  refine ev_pos (by omega) ?_
  refine ev_pos (by omega) ?_
  refine ev_bind (a := ((l.getD i zLC).f0, toMs (l.getD i zLC).f1)) ?_ ?_
  ·unfold laws_toClaim.f
   exact ev_bind (to_marks _ (hn.2 i (by omega))) (ev_ret rfl)
  refine ev_pos (by omega) ?_
  refine ih (i + 1) _ (by omega) (by simpa using hx) fun j hj => ?_
  rw [set_getD zC x i _ (by omega)]
  split
  ·rename_i e
   rw [e]
   rfl
  ·exact h j (by omega)
theorem to_claims (l : List LCl) (hn : Small l) : Ev (fun k => laws_toClaimS.f k l) (toCs l) := by
 have hl := hn.1
 unfold laws_toClaimS.f
 rw [Int.toNat_natCast]
 refine ev_pos (by omega) ?_
 refine ev_pos (by omega) ?_
 exact to_claims_l l hn l.length 0 _ (by omega) (by simp) fun j hj => by omega

/-! ### they compare -/
/-- What came in fits the machine. -/
def CWf (s : List LCl) : Prop := s.length ≤ maxLen ∧ ∀ y0 ∈ s, ((Lit.int .i64 y0.f0).wf = true) ∧ (y0.f1.length ≤ maxLen ∧ ∀ y1 ∈ y0.f1, ((Lit.int .i64 y1.f0).wf = true) ∧ ((Lit.int .i64 y1.f1).wf = true))
theorem toCs64 (s : List LCl) (h : CWf s) (hs : Small s) : S64 (toCs s) := by
 have hl := hs.1
 refine ⟨by rw [toCs_len]; omega, getD_all (toCs s) zC (fun c => M64 c.f1 ∧ c.f1.length < 4611686018427387904) ⟨?_, by decide⟩ fun c hc => ?_⟩
 ·intro i
  show (([] : List Mk).getD i zM).f1 ≤ 9223372036854775807
  rw [List.getD_nil]
  decide
 ·obtain ⟨y, hy, rfl⟩ := List.mem_map.1 hc
  have h2 := (h.2 y hy).2
  refine ⟨toMs64 _ h2.2, ?_⟩
  show (toMs y.f1).length < _
  rw [toMs_len]
  obtain ⟨j, hj, e⟩ := List.getElem_of_mem hy
  have := hs.2 j hj
  rw [getD_lt _ _ _ hj, e] at this
  omega
end Go.Proofs.YtcaogllnbpmcgaaDoor.M

/- The exact laws' marking of claims, terms and proofs, and whether a proof is still held. -/
set_option linter.unusedVariables false
set_option linter.unusedSimpArgs false
namespace Go.Proofs.YtcaogllnbpmcgaaDoor.M
open Go Go.RowKit Go.Proofs.YtcaogllnbpmcgaaDoorW.PrintWords Go.Proofs.YtcaogllnbpmcgaaDoor.P
theorem at_midX {α : Type} (z : α) (p : List α) (c : α) (s : List α) : (p ++ c :: s).getD p.length z = c := by
 rw [List.getD_eq_getElem?_getD, List.getElem?_append_right (Nat.le_refl _), Nat.sub_self]
 rfl
theorem set_midX {α : Type} (p : List α) (c x : α) (s : List α) : (p ++ c :: s).set p.length x = p ++ x :: s := by
 rw [List.set_append_right _ _ (Nat.le_refl _), Nat.sub_self]
 rfl
theorem step_midX {α : Type} (p : List α) (c : α) (s : List α) : p ++ c :: s = (p ++ [c]) ++ s := by simp
def markedM : List Mk → Int → List Mk
 | [], _ => []
 | _ :: s, a => ⟨a, a + 1⟩ :: markedM s (a + 2)
theorem mark_marks_l : ∀ (s p : List Mk) (a : Int), 0 ≤ a → a + 2 * s.length ≤ 4000000000000000000 → p.length + s.length ≤ 2000000000 → Ev (fun k => laws_markMarkS.l0 k (p ++ s) a (p.length : Int)) (a + 2 * s.length, p ++ markedM s a) := by
 intro s
 induction s with
 | nil =>
  intro p a h0 h1 h2
  refine Ev.step (fun k => by rw [laws_markMarkS.l0]) ?_
  exact ev_neg (by simp) (ev_ret (by simp [markedM]))
 | cons c s ih =>
  intro p a h0 h1 h2
  simp only [List.length_cons] at h1 h2
  have := ih (p ++ [⟨a, a + 1⟩]) (a + 2) (by omega) (by omega) (by simp; omega)
  refine Ev.step (fun k => by rw [laws_markMarkS.l0]) ?_
  refine ev_pos (by simp; omega) (ev_pos (by omega) ?_)
  simp only [Option.bind_some, Int.toNat_natCast, set_midX]
  rw [w64s (by omega), w64 (x := a + 1) (by omega) (by omega), w64 (x := a + 1 + 1) (by omega) (by omega)]
  unfold rd_T82
  simp only [Int.toNat_natCast, at_midX]
  rw [show a + 1 + 1 = a + 2 by omega, step_midX, show p.length + 1 = (p ++ [(⟨a, a + 1⟩ : Mk)]).length by simp]
  refine ev_eq this ?_
  simp only [List.length_cons, markedM, Prod.mk.injEq]
  exact ⟨by omega, by simp⟩
theorem markedM_len : ∀ (s : List Mk) (a : Int), (markedM s a).length = s.length
 | [], _ => rfl
 | _ :: s, a => by simp [markedM, markedM_len s]
def endC : List Cl → Int → Int
 | [], a => a
 | c :: s, a => endC s (a + 1 + 2 * c.f1.length)
def markedC : List Cl → Int → List Cl
 | [], _ => []
 | c :: s, a => ⟨a, markedM c.f1 (a + 1)⟩ :: markedC s (a + 1 + 2 * c.f1.length)
theorem endC_le : ∀ (s : List Cl) (a : Int), a ≤ endC s a
 | [], _ => Int.le_refl _
 | c :: s, a => by
  have := endC_le s (a + 1 + 2 * c.f1.length)
  unfold endC
  omega
theorem mark_claims_l : ∀ (s p : List Cl) (a : Int), 0 ≤ a → endC s a ≤ 3000000000000000000 → p.length + s.length ≤ 1000000000 → (∀ c ∈ s, c.f1.length ≤ 1000000000) → Ev (fun k => laws_markClaimS.l0 k (p ++ s) a (p.length : Int)) (endC s a, p ++ markedC s a) := by
 intro s
 induction s with
 | nil =>
  intro p a h0 h1 h2 h3
  refine Ev.step (fun k => by rw [laws_markClaimS.l0]) ?_
  exact ev_neg (by simp) (ev_ret (by simp [markedC, endC]))
 | cons c s ih =>
  intro p a h0 h1 h2 h3
  simp only [List.length_cons, endC] at h1 h2
  have hc3 := h3 c (by simp)
  have hle := endC_le s (a + 1 + 2 * c.f1.length)
  have := ih (p ++ [⟨a, markedM c.f1 (a + 1)⟩]) (a + 1 + 2 * c.f1.length) (by omega) (by omega) (by simp; omega) (fun x hx => h3 x (by simp [hx]))
  have hm := mark_marks_l c.f1 [] (a + 1) (by omega) (by omega) (by simp; omega)
  refine Ev.step (fun k => by rw [laws_markClaimS.l0]) ?_
  refine ev_pos (by simp; omega) (ev_pos (by omega) ?_)
  unfold rd_T79
  simp only [Int.toNat_natCast, set_midX, at_midX]
  rw [w64s (by omega), w64 (x := a + 1) (by omega) (by omega)]
  refine ev_bind hm ?_
  dsimp only
  rw [step_midX, show p.length + 1 = (p ++ [(⟨a, [] ++ markedM c.f1 (a + 1)⟩ : Cl)]).length by simp]
  refine ev_eq this ?_
  simp only [endC, markedC, Prod.mk.injEq]
  exact ⟨trivial, by simp⟩
theorem endC_small (N : Int) (hN : 0 ≤ N) : ∀ (s : List Cl) (a : Int), (∀ c ∈ s, (c.f1.length : Int) ≤ N) → endC s a ≤ a + s.length * (1 + 2 * N)
 | [], a, _ => by simp [endC]
 | c :: s, a, h => by
  have h1 := h c (by simp)
  have := endC_small N hN s (a + 1 + 2 * c.f1.length) fun x hx => h x (by simp [hx])
  unfold endC
  rw [List.length_cons, Int.natCast_succ, Int.add_mul]
  omega
/-- The marking of a story that the laws don't leave out. -/
theorem mark_story (s : List Cl) (hs : s.length ≤ 1048576) (hl : ∀ c ∈ s, (c.f1.length : Int) ≤ 1048576) : ∃ m x, 1 ≤ m ∧ m ≤ 3000000000000 ∧ Ev (fun k => laws_markClaimS.f k s 1) (m, x) := by
 have h1 := endC_small 1048576 (by decide) s 1 hl
 have h2 := endC_le s 1
 have h3 : (s.length : Int) * (1 + 2 * 1048576) ≤ 1048576 * (1 + 2 * 1048576) := Int.mul_le_mul_of_nonneg_right (by omega) (by decide)
 refine ⟨endC s 1, markedC s 1, h2, by omega, ?_⟩
 unfold laws_markClaimS.f
 exact mark_claims_l s [] 1 (by decide) (by omega) (by simp; omega) (fun c hc => by have := hl c hc; omega)
theorem mark_marks (l : List Mk) (a : Int) (h0 : 0 ≤ a) (h1 : a ≤ 3000000000000) (hl : l.length ≤ 1048576) : ∃ m x, 0 ≤ m ∧ Ev (fun k => laws_markMarkS.f k l a) (m, x) := by
 refine ⟨a + 2 * l.length, markedM l a, by omega, ?_⟩
 unfold laws_markMarkS.f
 exact mark_marks_l l [] a h0 (by omega) (by simp; omega)
def markedS : List Q.Sp → Int → List Q.Sp
 | [], _ => []
 | _ :: s, a => ⟨a, a + 1, a + 2⟩ :: markedS s (a + 3)
theorem mark_splits_l : ∀ (s p : List Q.Sp) (a : Int), 0 ≤ a → a + 3 * s.length ≤ 1000000000 → p.length + s.length ≤ 1000000000 → Ev (fun k => laws_markSplitS.l0 k (p ++ s) a (p.length : Int)) (a + 3 * s.length, p ++ markedS s a) := by
 intro s
 induction s with
 | nil =>
  intro p a h0 h1 h2
  refine Ev.step (fun k => by rw [laws_markSplitS.l0]) ?_
  exact ev_neg (by simp) (ev_ret (by simp [markedS]))
 | cons c s ih =>
  intro p a h0 h1 h2
  simp only [List.length_cons] at h1 h2
  have := ih (p ++ [⟨a, a + 1, a + 2⟩]) (a + 3) (by omega) (by omega) (by simp; omega)
  refine Ev.step (fun k => by rw [laws_markSplitS.l0]) ?_
  refine ev_pos (by simp; omega) (ev_pos (by omega) ?_)
  unfold rd_T68
  simp only [Option.bind_some, Int.toNat_natCast, set_midX, at_midX]
  rw [w64s (by omega), w64 (x := a + 1) (by omega) (by omega), w64 (x := a + 1 + 1) (by omega) (by omega), w64 (x := a + 1 + 1 + 1) (by omega) (by omega)]
  rw [show a + 1 + 1 + 1 = a + 3 by omega, show a + 1 + 1 = a + 2 by omega, step_midX, show p.length + 1 = (p ++ [(⟨a, a + 1, a + 2⟩ : Q.Sp)]).length by simp]
  refine ev_eq this ?_
  simp only [List.length_cons, markedS, Prod.mk.injEq]
  exact ⟨by omega, by simp⟩
theorem held_splits_l : ∀ (s p : List Q.Sp) (a : Int), 0 ≤ a → a + 3 * s.length ≤ 1000000000 → p.length + s.length ≤ 1000000000 → Ev (fun k => laws_heldSplitS.l0 k (p ++ markedS s a) a (p.length : Int)) (a + 3 * s.length) := by
 intro s
 induction s with
 | nil =>
  intro p a h0 h1 h2
  refine Ev.step (fun k => by rw [laws_heldSplitS.l0]) ?_
  exact ev_neg (by simp [markedS]) (ev_ret (by simp))
 | cons c s ih =>
  intro p a h0 h1 h2
  simp only [List.length_cons] at h1 h2
  have := ih (p ++ [⟨a, a + 1, a + 2⟩]) (a + 3) (by omega) (by omega) (by simp; omega)
  refine Ev.step (fun k => by rw [laws_heldSplitS.l0]) ?_
  refine ev_pos (by simp [markedS]; omega) (ev_pos (by omega) ?_)
  unfold rd_T68
  simp only [Int.toNat_natCast, markedS, at_midX]
  rw [w64s (by omega), w64 (x := a + 1) (by omega) (by omega), w64 (x := a + 1 + 1) (by omega) (by omega), w64 (x := a + 1 + 1 + 1) (by omega) (by omega)]
  refine ev_pos (by first | trivial | omega) (ev_pos (by first | trivial | omega) (ev_pos (by first | trivial | omega) ?_))
  rw [show a + 1 + 1 + 1 = a + 3 by omega, step_midX, show p.length + 1 = (p ++ [(⟨a, a + 1, a + 2⟩ : Q.Sp)]).length by simp]
  refine ev_eq this ?_
  simp only [List.length_cons]
  omega
theorem mark_proof (fi : Int) (S : List Q.Sp) (h : S.length ≤ 1000) : Ev (fun k => laws_markProof.f k fi S 1) (1 + 3 * (S.length : Int), markedS S 1) := by
 unfold laws_markProof.f laws_markSplitS.f
 exact ev_bind (mark_splits_l S [] 1 (by decide) (by omega) (by simp; omega)) (ev_ret rfl)
theorem held_proof (fi : Int) (S : List Q.Sp) (h : S.length ≤ 1000) : Ev (fun k => laws_heldProof.f k fi (markedS S 1) 1) (1 + 3 * (S.length : Int)) := by
 unfold laws_heldProof.f laws_heldSplitS.f
 exact ev_bind (held_splits_l S [] 1 (by decide) (by omega) (by simp; omega)) (ev_neg (by omega) (ev_ret rfl))
end Go.Proofs.YtcaogllnbpmcgaaDoor.M

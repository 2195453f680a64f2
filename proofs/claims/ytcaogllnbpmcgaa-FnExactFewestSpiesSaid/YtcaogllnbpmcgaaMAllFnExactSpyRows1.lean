/- What the proof of this law needs besides: texts of ours, one behind the other. -/
import Derived.Test.YtcaogllnbpmcgaaWWords
import Derived.Test.YtcaogllnbpmcgaaWMore
import Derived.Deep.Slices
import Derived.Deep.Strs
import Derived.ChangeSame
import Derived.ProofKit
import Derived.Test.YtcaogllnbpmcgaaMAllFnExactSpyRows2
import Derived.Test.YtcaogllnbpmcgaaPx7
import Derived.Test.YtcaogllnbpmcgaaPx17
import Derived.Test.YtcaogllnbpmcgaaPx4
import Derived.Test.YtcaogllnbpmcgaaPx14
import Derived.Test.YtcaogllnbpmcgaaPx2
import Derived.Test.YtcaogllnbpmcgaaPx15
/- What comes in, opened by its type's shape: a slice of whatever can be opened reads as a list of what its elements read as. -/
set_option linter.unusedVariables false
set_option linter.unusedSimpArgs false
namespace Go.Proofs.Ytcaogllnbpmcgaa.Open
open Go Go.RowKit Go.Proofs.YtcaogllnbpmcgaaW.PrintWords Go.Deep Go.ChangeShapes Go.WideShapes

/-- Whatever reads at this type is what the kind tells. -/
def Opens (P : Program) (w : World) (e : TypeId) {α : Type} (d : Kd α) (wf : α → Prop) : Prop :=
  ∀ (H : Type) (enc : TypeId × Value → H) (n : Nat) (cs : List Value) (x : DataW H × List MemPlace), DataW.trod enc P w 0 (fun _ => true) true n e cs = some x → ∃ a, d.K w a cs ∧ wf a
section
variable {P : Program} {w : World} {t e : TypeId}
theorem opens_int {k : IntKind} (ht : P.underlying t = some (.int k)) : Opens P w t (Kd.int k) (fun a => (Lit.int k a).wf = true) := fun H enc n cs x h => by
  obtain ⟨m, rfl, _, hw⟩ := DataW.trod_int ht h
  exact ⟨m, rfl, hw⟩
theorem opens_bool (ht : P.underlying t = some .bool) : Opens P w t Kd.bool (fun _ => True) := fun H enc n cs x h => by
  obtain ⟨m, rfl, _⟩ := DataW.trod_bool ht h
  exact ⟨m, rfl, trivial⟩
theorem list_of {α : Type} (n : Nat) (Q : Nat → α → Prop) (h : ∀ i, i < n → ∃ a, Q i a) : ∃ l : List α, l.length = n ∧ ∀ i a, l[i]? = some a → Q i a := by
  induction n with
  | zero => exact ⟨[], rfl, fun i a h => by simp at h⟩
  | succ n ih =>
    obtain ⟨l, hl, hq⟩ := ih fun i hi => h i (by omega)
    obtain ⟨a, ha⟩ := h n (by omega)
    refine ⟨l ++ [a], by simp [hl], fun i b hb => ?_⟩
    by_cases hi : i < n
    · rw [List.getElem?_append_left (by omega)] at hb
      exact hq i b hb
    · by_cases he : i = n
      · subst he
        rw [List.getElem?_append_right (by omega), hl, Nat.sub_self] at hb
        simp at hb
        exact hb ▸ ha
      · rw [List.getElem?_eq_none (by simp; omega)] at hb
        cases hb
theorem opens_slice {α : Type} {d : Kd α} {wf : α → Prop} (ht : P.underlying t = some (.slice e)) (hc : P.cellsOf e = d.sz) (he : Opens P w e d wf) :
    Opens P w t (Kd.slice e d) (fun l => l.length ≤ maxLen ∧ ∀ x ∈ l, wf x) := fun H enc n cs x h => by
  rcases open_slice ht h with ⟨rfl, _⟩ | ⟨a, len, cap, m, n', D, Pl, rfl, _, hl, hm, hmm, _, hx⟩
  · exact ⟨[], ⟨none, 0, rfl, Nat.le_refl _, rfl, Nat.zero_le _, fun h => absurd h (Nat.lt_irrefl _)⟩, Nat.zero_le _, fun x hx => by cases hx⟩
  · obtain ⟨l, hll, hq⟩ := list_of len (fun i p => (∃ c, c.length = d.sz ∧ d.K w p c ∧ ∀ j u, c[j]? = some u → w.cell? (a.add (i * d.sz + j)) = some u) ∧ wf p) fun i hi => by
      obtain ⟨cs', hcs, htr⟩ := hx i (by rw [hmm]; simp; omega)
      obtain ⟨p, hK, hw⟩ := he H enc n' cs' _ htr
      obtain ⟨_, hlen, hcell⟩ := World.cells?_some hcs
      refine ⟨p, ⟨cs', by omega, hK, fun j u hu => ?_⟩, hw⟩
      have hj : j < cs'.length := (List.getElem?_eq_some_iff.1 hu).1
      have := hcell j (by omega)
      rw [Go.Deep.add_add, hc] at this
      exact this.trans hu
    subst hll
    refine ⟨l, ⟨some a, cap, rfl, hl, rfl, by unfold maxLen at hm; omega, fun _ => ⟨a, rfl, fun j p hp => (hq j p hp).1⟩⟩, by omega, fun x hx => ?_⟩
    obtain ⟨j, hj, e⟩ := List.getElem_of_mem hx
    exact (hq j x (by rw [List.getElem?_eq_getElem hj, e])).2
/-- A slice that is a parameter. -/
theorem top_slice {α : Type} {d : Kd α} {wf : List α → Prop} {H : Type} {enc : TypeId × Value → H} {a : Option Addr} {len cap : Nat} {dd : DataW H} {pp : List MemPlace} (ho : Opens P w t (Kd.slice e d) wf)
    (h : DataW.Trod enc P w 0 (fun _ => true) true t (.slice a len cap) dd pp) : ∃ l : List α, len = l.length ∧ l.length ≤ cap ∧ d.C w a l.length l ∧ wf l := by
  obtain ⟨fuel, hf⟩ := h
  obtain ⟨l, ⟨A, c, hcs, hl, hC⟩, hw⟩ := ho H enc fuel _ _ hf
  have : Value.slice a len cap = Value.slice A l.length c := by simpa [Value.cells] using hcs
  injection this with h1 h2 h3
  subst h1
  subst h3
  exact ⟨l, h2, hl, hC, hw⟩
theorem opens_two {α β γ : Type} {d0 : Kd α} {d1 : Kd β} {d : Kd γ} {wf0 : α → Prop} {wf1 : β → Prop} {wf : γ → Prop} {f0 f1 : Field} (pair : α → β → γ) (ht : P.underlying t = some (.struct #[f0, f1])) (hc : P.cellsOf t = 2)
    (o0 : f0.offset = 0) (o1 : f1.offset = 1) (c0 : P.cellsOf f0.type = 1) (c1 : P.cellsOf f1.type = 1) (h0 : Opens P w f0.type d0 wf0) (h1 : Opens P w f1.type d1 wf1)
    (mk : ∀ a b x y, d0.K w a [x] → d1.K w b [y] → d.K w (pair a b) [x, y]) (hwf : ∀ a b, wf0 a → wf1 b → wf (pair a b)) : Opens P w t d wf := fun H enc n cs x h => by
  obtain ⟨y0, y1, m, _, hl, t0, t1⟩ := trod_struct2 ht h
  rw [o0, c0] at t0
  rw [o1, c1] at t1
  rw [hc] at hl
  match cs, hl with
  | [u, v], _ =>
    obtain ⟨a, ha, wa⟩ := h0 H enc m _ _ t0
    obtain ⟨b, hb, wb⟩ := h1 H enc m _ _ t1
    exact ⟨pair a b, mk a b u v ha hb, hwf a b wa wb⟩
theorem opens_three {α β γ δ : Type} {d0 : Kd α} {d1 : Kd β} {d2 : Kd γ} {d : Kd δ} {wf0 : α → Prop} {wf1 : β → Prop} {wf2 : γ → Prop} {wf : δ → Prop} {f0 f1 f2 : Field} (pair : α → β → γ → δ) (ht : P.underlying t = some (.struct #[f0, f1, f2])) (hc : P.cellsOf t = 3)
    (o0 : f0.offset = 0) (o1 : f1.offset = 1) (o2 : f2.offset = 2) (c0 : P.cellsOf f0.type = 1) (c1 : P.cellsOf f1.type = 1) (c2 : P.cellsOf f2.type = 1) (h0 : Opens P w f0.type d0 wf0) (h1 : Opens P w f1.type d1 wf1) (h2 : Opens P w f2.type d2 wf2)
    (mk : ∀ a b c x y z, d0.K w a [x] → d1.K w b [y] → d2.K w c [z] → d.K w (pair a b c) [x, y, z]) (hwf : ∀ a b c, wf0 a → wf1 b → wf2 c → wf (pair a b c)) : Opens P w t d wf := fun H enc n cs x h => by
  obtain ⟨y0, y1, y2, m, _, hl, t0, t1, t2⟩ := trod_struct3 ht h
  rw [o0, c0] at t0
  rw [o1, c1] at t1
  rw [o2, c2] at t2
  rw [hc] at hl
  match cs, hl with
  | [u, v, z], _ =>
    obtain ⟨a, ha, wa⟩ := h0 H enc m _ _ t0
    obtain ⟨b, hb, wb⟩ := h1 H enc m _ _ t1
    obtain ⟨c, hc, wc⟩ := h2 H enc m _ _ t2
    exact ⟨pair a b c, mk a b c u v z ha hb hc, hwf a b c wa wb wc⟩
end
end Go.Proofs.Ytcaogllnbpmcgaa.Open

/- The reference's SpyRows and FewestSpies: rows of kinds counted by their numbers. -/
set_option linter.unusedVariables false
set_option linter.unusedSimpArgs false
namespace Go.Proofs.Ytcaogllnbpmcgaa.M
open Go Go.RowKit Go.Proofs.YtcaogllnbpmcgaaW.PrintWords Go.Proofs.YtcaogllnbpmcgaaW.PrintMore Go.Proofs.Ytcaogllnbpmcgaa.P
theorem tmod3 (m : Nat) : Int.tmod (m : Int) 3 = ((m % 3 : Nat) : Int) := rfl
theorem tdiv3 (m : Nat) : Int.tdiv (m : Int) 3 = ((m / 3 : Nat) : Int) := rfl
theorem spec_rows_l (n : Nat) (hn : n ≤ 4) : ∀ d i, i + d = n → Ev (fun k => spec_l9Rows.l0 k (n : Int) ((p3 i : Nat) : Int) (i : Int)) ((p3 n : Nat) : Int) := by
  intro d
  induction d with
  | zero =>
    intro i hi
    refine Ev.step (fun k => by rw [spec_l9Rows.l0]) (ev_neg (by omega) (ev_ret ?_))
    rw [show i = n by omega]
  | succ d ih =>
    intro i hi
    have := p3_le (n := i) (by omega)
    refine Ev.step (fun k => by rw [spec_l9Rows.l0]) (ev_pos (by omega) ?_)
    rw [w64s (by omega), w64 (by omega) (by omega), show ((p3 i : Nat) : Int) * 3 = ((p3 (i + 1) : Nat) : Int) from by show _ = ((p3 i * 3 : Nat) : Int); omega]
    exact ih (i + 1) (by omega)
theorem spec_rowsE (n : Nat) (hn : n ≤ 4) : Ev (fun k => spec_l9Rows.f k (n : Int)) ((p3 n : Nat) : Int) := spec_rows_l n hn n 0 (by omega)
theorem spec_kinds_dig_l (n : Nat) (hn : n ≤ 4) : ∀ (d i m : Nat) (acc : List Int), i + d = n → m ≤ 1000 → acc.length ≤ i → Ev (fun k => spec_l9Kinds.l0 k (n : Int) (m : Int) acc (i : Int)) (acc ++ digK d m) := by
  intro d
  induction d with
  | zero =>
    intro i m acc hi hm ha
    refine Ev.step (fun k => by rw [spec_l9Kinds.l0]) (ev_neg (by omega) (ev_ret ?_))
    rw [digK, List.append_nil]
  | succ d ih =>
    intro i m acc hi hm ha
    refine Ev.step (fun k => by rw [spec_l9Kinds.l0]) (ev_pos (by omega) (ev_pos (by omega) ?_))
    rw [tmod3, tdiv3, w64s (by omega), w64 (by omega) (by omega)]
    refine ev_eq (ih (i + 1) (m / 3) (acc ++ [((m % 3 : Nat) : Int)]) (by omega) (by omega) (by simp; omega)) ?_
    rw [List.append_assoc]
    rfl
theorem spec_digE (n : Nat) (hn : n ≤ 4) (m : Nat) (hm : m ≤ 1000) : Ev (fun k => spec_l9Kinds.f k (n : Int) (m : Int)) (digK n m) := spec_kinds_dig_l n hn n 0 m [] (by omega) hm (Nat.zero_le _)
theorem spec_spyN_l (ks : List Int) (hk : ks.length ≤ 4) : ∀ d i a, i + d = ks.length → a ≤ i → Ev (fun k => spec_l9Spies.l0 k ks (a : Int) (i : Int)) ((a + spyL (ks.drop i) : Nat) : Int) := by
  intro d
  induction d with
  | zero =>
    intro i a hi ha
    refine Ev.step (fun k => by rw [spec_l9Spies.l0]) (ev_neg (by omega) (ev_ret ?_))
    rw [List.drop_eq_nil_of_le (by omega)]
    rfl
  | succ d ih =>
    intro i a hi ha
    refine Ev.step (fun k => by rw [spec_l9Spies.l0]) (ev_pos (by omega) (ev_pos (by omega) ?_))
    have e : spyL (ks.drop i) = (if ks.getD i 0 = 2 then 1 else 0) + spyL (ks.drop (i + 1)) := by
      rw [List.drop_eq_getElem_cons (by omega : i < ks.length), getD_lt ks 0 i (by omega)]
      rfl
    rw [rdN, w64s (i := i) (by omega), e]
    by_cases h : ks.getD i 0 = 2
    · rw [if_pos h, w64s (by omega)]
      refine ev_pos h (ev_eq (ih (i + 1) (a + 1) (by omega) (by omega)) (by omega))
    · rw [if_neg h]
      refine ev_neg h (ev_eq (ih (i + 1) a (by omega) (by omega)) (by omega))
theorem spec_spiesNE (ks : List Int) (hk : ks.length ≤ 4) : Ev (fun k => spec_l9Spies.f k ks) ((spyL ks : Nat) : Int) := by
  refine ev_eq (spec_spyN_l ks hk ks.length 0 0 (by omega) (Nat.le_refl _)) ?_
  rw [List.drop_zero, Nat.zero_add]
/-- The rows that the reference counts. -/
noncomputable def rowQ (n : Nat) (s : List Cl) (left : Int) (m : Nat) : Bool := decide ((spyL (digK n m) : Int) = left) && spB s (digK n m)
theorem cnt_rowQ (n : Nat) (s : List Cl) (left : Int) : cntK (spB s) n [] left = rowsN (rowQ n s left) (p3 n) := by
  rw [cnt_rows]
  rfl
theorem spec_spyRows_l (n : Nat) (hn : n ≤ 4) (s : List Cl) (hs : S64 s) (left : Int) : ∀ d i, i + d = p3 n → Ev (fun k => spec_SpyRows.l0 k (n : Int) s left ((rowsN (rowQ n s left) i : Nat) : Int) (i : Int)) ((cntK (spB s) n [] left : Nat) : Int) := by
  have hp := p3_le hn
  intro d
  induction d with
  | zero =>
    intro i hi
    refine Ev.step (fun k => by rw [spec_SpyRows.l0]) ?_
    refine ev_bind (spec_rowsE n hn) ?_
    refine ev_neg (by omega) (ev_ret ?_)
    rw [cnt_rowQ, show i = p3 n by omega]
  | succ d ih =>
    intro i hi
    have hle := rows_le (rowQ n s left) i
    refine Ev.step (fun k => by rw [spec_SpyRows.l0]) ?_
    refine ev_bind (spec_rowsE n hn) ?_
    refine ev_pos (by omega) ?_
    refine ev_bind (spec_digE n hn i (by omega)) ?_
    refine ev_bind (spec_spiesNE _ (by rw [digK_len]; exact hn)) ?_
    have hnext := ih (i + 1) (by omega)
    rw [rowsS] at hnext
    rw [w64s (i := i) (by omega)]
    by_cases h : ((spyL (digK n i) : Nat) : Int) = left
    · refine ev_pos h ?_
      obtain ⟨b, hb, hbi⟩ := spec_spies (digK n i) (by rw [digK_len]; omega) s hs
      refine ev_bind hb ?_
      cases b with
      | true =>
        have hq : rowQ n s left i = true := by unfold rowQ; rw [decide_eq_true h, (spB_iff _ _).2 (hbi.1 rfl)]; rfl
        rw [if_pos hq] at hnext
        rw [w64s (by omega)]
        exact ev_pos rfl hnext
      | false =>
        have hq : ¬ rowQ n s left i = true := fun hq => by
          unfold rowQ at hq
          rw [Bool.and_eq_true, spB_iff] at hq
          exact Bool.noConfusion (hbi.2 hq.2)
        rw [if_neg hq, Nat.add_zero] at hnext
        exact ev_neg (by decide) hnext
    · have hq : ¬ rowQ n s left i = true := fun hq => by
        unfold rowQ at hq
        rw [Bool.and_eq_true, decide_eq_true_eq] at hq
        exact h hq.1
      rw [if_neg hq, Nat.add_zero] at hnext
      exact ev_neg h hnext
/-- SpyRows told. -/
noncomputable def spyRowsF (n : Int) (s : List Cl) (left : Int) : Int := @ite _ (StoryP n s ∧ 0 ≤ left ∧ left ≤ n) (Classical.propDecidable _) ((cntK (spB s) n.toNat [] left : Nat) : Int) (-1)
theorem spec_spyRowsE (n : Int) (hn : n ≤ 9223372036854775807) (s : List Cl) (hs : S64 s) (left : Int) : Ev (fun k => spec_SpyRows.f k n s left) (spyRowsF n s left) := by
  unfold spec_SpyRows.f spyRowsF
  obtain ⟨b, hb, hi⟩ := spec_storyOk n hn s hs
  refine ev_bind hb ?_
  cases b with
  | false =>
    rw [if_neg (fun h => Bool.noConfusion (hi.2 h.1))]
    refine ev_neg (by decide) (Ev.step (fun k => by rw [spec_SpyRows.j0]) (ev_pos rfl (ev_ret rfl)))
  | true =>
    refine ev_pos rfl (ev_bindc (l1InT _ _ _) ?_)
    have hS := hi.1 rfl
    have h1 := hS.2.1
    by_cases h : 0 ≤ left ∧ left ≤ n
    · rw [if_pos ⟨hS, h⟩, decide_eq_true h]
      obtain ⟨m, rfl⟩ : ∃ m : Nat, n = (m : Int) := ⟨n.toNat, by omega⟩
      refine Ev.step (fun k => by rw [spec_SpyRows.j0]) (ev_neg (by decide) ?_)
      exact spec_spyRows_l m (by omega) s hs left (p3 m) 0 (by omega)
    · rw [if_neg (fun h' => h h'.2), decide_eq_false h]
      refine Ev.step (fun k => by rw [spec_SpyRows.j0]) ?_
      exact ev_pos rfl (ev_ret rfl)
theorem spec_few_l (n : Nat) (hn : n ≤ 4) (s : List Cl) (hs : S64 s) : ∀ d i, i + d = p3 n → Ev (fun k => spec_FewestSpies.l0 k (n : Int) s ((bestN n (spB s) i : Nat) : Int) (i : Int)) ((fewS n s : Nat) : Int) := by
  have hp := p3_le hn
  intro d
  induction d with
  | zero =>
    intro i hi
    refine Ev.step (fun k => by rw [spec_FewestSpies.l0]) ?_
    refine ev_bind (spec_rowsE n hn) ?_
    refine ev_neg (by omega) (ev_ret ?_)
    rw [show i = p3 n by omega]
    rfl
  | succ d ih =>
    intro i hi
    refine Ev.step (fun k => by rw [spec_FewestSpies.l0]) ?_
    refine ev_bind (spec_rowsE n hn) ?_
    refine ev_pos (by omega) ?_
    refine ev_bind (spec_digE n hn i (by omega)) ?_
    have hnext := ih (i + 1) (by omega)
    unfold bestN at hnext
    rw [w64s (i := i) (by omega)]
    obtain ⟨b, hb, hbi⟩ := spec_spies (digK n i) (by rw [digK_len]; omega) s hs
    refine ev_bind hb ?_
    cases b with
    | true =>
      rw [if_pos ((spB_iff _ _).2 (hbi.1 rfl))] at hnext
      refine ev_pos rfl (ev_bind (spec_spiesNE _ (by rw [digK_len]; exact hn)) ?_)
      refine ev_eq hnext rfl |> fun h => ?_
      have e : mn ((bestN n (spB s) i : Nat) : Int) ((spyL (digK n i) : Nat) : Int) = ((min (bestN n (spB s) i) (spyL (digK n i)) : Nat) : Int) := by
        unfold mn
        split <;> omega
      rw [e]
      exact h
    | false =>
      rw [if_neg (fun h => Bool.noConfusion (hbi.2 ((spB_iff _ _).1 h)))] at hnext
      exact ev_neg (by decide) hnext
/-- FewestSpies told. -/
noncomputable def fewF (n : Int) (s : List Cl) : Int := @ite _ (StoryP n s) (Classical.propDecidable _) ((fewS n.toNat s : Nat) : Int) (-1)
theorem spec_fewE (n : Int) (hn : n ≤ 9223372036854775807) (s : List Cl) (hs : S64 s) : Ev (fun k => spec_FewestSpies.f k n s) (fewF n s) := by
  unfold spec_FewestSpies.f fewF
  obtain ⟨b, hb, hi⟩ := spec_storyOk n hn s hs
  refine ev_bind hb ?_
  cases b with
  | false =>
    rw [if_neg (fun h => Bool.noConfusion (hi.2 h))]
    exact ev_neg (by decide) (ev_ret rfl)
  | true =>
    have hS := hi.1 rfl
    have h1 := hS.2.1
    rw [if_pos hS]
    obtain ⟨m, rfl⟩ : ∃ m : Nat, n = (m : Int) := ⟨n.toNat, by omega⟩
    refine ev_pos rfl ?_
    exact spec_few_l m (by omega) s hs (p3 m) 0 (by omega)
end Go.Proofs.Ytcaogllnbpmcgaa.M

/- The program's SpyRows and FewestSpies tell what the reference's tell. -/
set_option linter.unusedVariables false
set_option linter.unusedSimpArgs false
namespace Go.Proofs.Ytcaogllnbpmcgaa.M
open Go Go.RowKit Go.Proofs.YtcaogllnbpmcgaaW.PrintWords Go.Proofs.YtcaogllnbpmcgaaW.PrintMore Go.Proofs.Ytcaogllnbpmcgaa.P
theorem impl_spyRows_is (n : Int) (s : List Cl) (h : StoryP n s) (left : Int) (h0 : 0 ≤ left) (h1 : left ≤ 1000) : impl_spyRows.f n s left = some ((cntK (spB s) n.toNat [] left : Nat) : Int) := by
  unfold impl_spyRows.f
  rw [if_pos ⟨h, h0, h1⟩]
theorem spyRowsF_no (n : Int) (s : List Cl) (left : Int) (h : ¬ (StoryP n s ∧ 0 ≤ left ∧ left ≤ n)) : spyRowsF n s left = -1 := by
  unfold spyRowsF
  rw [if_neg h]
theorem spyRowsF_yes (n : Int) (s : List Cl) (left : Int) (h : StoryP n s ∧ 0 ≤ left ∧ left ≤ n) : spyRowsF n s left = ((cntK (spB s) n.toNat [] left : Nat) : Int) := by
  unfold spyRowsF
  rw [if_pos h]
theorem fewF_no (n : Int) (s : List Cl) (h : ¬ StoryP n s) : fewF n s = -1 := by
  unfold fewF
  rw [if_neg h]
theorem fewF_yes (n : Int) (s : List Cl) (h : StoryP n s) : fewF n s = ((fewS n.toNat s : Nat) : Int) := by
  unfold fewF
  rw [if_pos h]
theorem impl_spyRowsE (n : Int) (s : List Cl) (hs : s.length < 4611686018427387904) (left : Int) : Ev (fun k => impl_SpyRows.f k n s left) (spyRowsF n s left) := by
  unfold impl_SpyRows.f
  obtain ⟨b, hb, hi⟩ := impl_storyOk n s hs
  refine ev_bind hb ?_
  cases b with
  | false =>
    rw [spyRowsF_no n s left (fun h => Bool.noConfusion (hi.2 h.1))]
    exact ev_neg (by decide) (ev_ret rfl)
  | true =>
    have hS := hi.1 rfl
    have h1 := hS.2.1
    refine ev_pos rfl ?_
    by_cases h0 : left < 0
    · rw [spyRowsF_no n s left (fun h => by omega)]
      exact ev_pos h0 (ev_ret rfl)
    · refine ev_neg h0 ?_
      by_cases h2 : left > n
      · rw [spyRowsF_no n s left (fun h => by omega)]
        exact ev_pos h2 (ev_ret rfl)
      · rw [spyRowsF_yes n s left ⟨hS, by omega, by omega⟩]
        refine ev_neg h2 ?_
        exact ev_bindc (impl_spyRows_is n s hS left (by omega) (by omega)) (ev_ret rfl)
theorem impl_few_l (n : Nat) (s : List Cl) (h : StoryP (n : Int) s) : ∀ d i, i + d = fewS n s → Ev (fun k => impl_FewestSpies.l0 k (n : Int) s (i : Int)) ((fewS n s : Nat) : Int) := by
  have hle := few_le n s
  have hn := h.2.1
  intro d
  induction d with
  | zero =>
    intro i hi
    have hp := best_cnt n (spB s) (all_twoB n s h)
    rw [show bestN n (spB s) (p3 n) = i by unfold fewS at hi; omega] at hp
    refine Ev.step (fun k => by rw [impl_FewestSpies.l0]) ?_
    refine ev_bindc (impl_spyRows_is (n : Int) s h (i : Int) (by omega) (by omega)) ?_
    rw [Int.toNat_natCast]
    refine ev_pos (by omega) (ev_ret ?_)
    rw [show i = fewS n s by omega]
  | succ d ih =>
    intro i hi
    have hp := best_cnt0 n (spB s) i (by unfold fewS at hi; omega)
    refine Ev.step (fun k => by rw [impl_FewestSpies.l0]) ?_
    refine ev_bindc (impl_spyRows_is (n : Int) s h (i : Int) (by omega) (by omega)) ?_
    rw [Int.toNat_natCast, hp]
    refine ev_neg (by decide) ?_
    rw [w64s (by omega)]
    exact ih (i + 1) (by omega)
theorem impl_fewE (n : Int) (s : List Cl) (hs : s.length < 4611686018427387904) : Ev (fun k => impl_FewestSpies.f k n s) (fewF n s) := by
  unfold impl_FewestSpies.f
  obtain ⟨b, hb, hi⟩ := impl_storyOk n s hs
  refine ev_bind hb ?_
  cases b with
  | false =>
    rw [fewF_no n s (fun h => Bool.noConfusion (hi.2 h))]
    exact ev_neg (by decide) (ev_ret rfl)
  | true =>
    have hS := hi.1 rfl
    have h1 := hS.2.1
    rw [fewF_yes n s hS]
    obtain ⟨m, rfl⟩ : ∃ m : Nat, n = (m : Int) := ⟨n.toNat, by omega⟩
    refine ev_pos rfl ?_
    exact impl_few_l m s hS (fewS m s) 0 (by omega)
end Go.Proofs.Ytcaogllnbpmcgaa.M

/- The exact laws' helpers over claims: they measure, turn and compare. -/
set_option linter.unusedVariables false
set_option linter.unusedSimpArgs false
namespace Go.Proofs.Ytcaogllnbpmcgaa.M
open Go Go.RowKit Go.Proofs.YtcaogllnbpmcgaaW.PrintWords Go.Proofs.Ytcaogllnbpmcgaa.P
abbrev LMk := S100
abbrev zLM : LMk := z100
abbrev LCl := S75
abbrev zLC : LCl := z75
theorem rdLM (s : List LMk) (i : Nat) : rd_T100 s (i : Int) = s.getD i zLM := by simp [rd_T100]
theorem rdLC (s : List LCl) (i : Nat) : rd_T75 s (i : Int) = s.getD i zLC := by simp [rd_T75]
def toM (l : LMk) : Mk := ⟨l.f0, l.f1⟩
def toMs (l : List LMk) : List Mk := l.map toM
def toC (l : LCl) : Cl := ⟨l.f0, toMs l.f1⟩
def toCs (l : List LCl) : List Cl := l.map toC
theorem toMs_len (l : List LMk) : (toMs l).length = l.length := by simp [toMs]
theorem toCs_len (l : List LCl) : (toCs l).length = l.length := by simp [toCs]
theorem toCs_getD (l : List LCl) (i : Nat) (h : i < l.length) : (toCs l).getD i zC = toC (l.getD i zLC) := by
  unfold toCs
  rw [getD_lt _ _ _ (by simpa using h), getD_lt _ _ _ h, List.getElem_map]

/-! ### they measure -/
theorem sz_marks (l : List LMk) (a : Int) (hl : l.length ≤ maxLen) (h0 : 0 ≤ a) (h1 : a ≤ 1048576) : ∃ r, laws_szMarkS.f l a = some r ∧ r ≤ a ∧ (0 ≤ r → (l.length : Int) ≤ a) := by
  unfold maxLen at hl
  unfold laws_szMarkS.f
  rw [w64 (by omega) (by omega)]
  by_cases h : a - (l.length : Int) < 0
  · exact ⟨-1, if_pos h, by omega, fun h => absurd h (by decide)⟩
  · exact ⟨_, if_neg h, by omega, fun _ => by omega⟩
theorem sz_claim (who : Int) (l : List LMk) (a : Int) (hl : l.length ≤ maxLen) (h0 : 0 ≤ a) (h1 : a ≤ 1048576) : ∃ r, laws_szClaim.f who l a = some r ∧ r ≤ a ∧ (0 ≤ r → (l.length : Int) ≤ a) := by
  obtain ⟨r, e, hr, hl'⟩ := sz_marks l a hl h0 h1
  unfold laws_szClaim.f
  rw [e, Option.bind_some]
  by_cases h : r < 0
  · exact ⟨-1, if_pos h, by omega, fun h => absurd h (by decide)⟩
  · exact ⟨r, if_neg h, hr, hl'⟩
theorem sz_claims_l (s : List LCl) (hs : s.length ≤ 1048576) (hw : ∀ c ∈ s, c.f1.length ≤ maxLen) : ∀ d i (a : Int), i + d = s.length → 0 ≤ a → a ≤ 1048576 →
    ∃ r, Ev (fun k => laws_szClaimS.l0 k s a (i : Int)) r ∧ r ≤ a ∧ (0 ≤ r → ∀ j, i ≤ j → j < s.length → (s.getD j zLC).f1.length ≤ 1048576) := by
  intro d
  induction d with
  | zero =>
    intro i a hi h0 h1
    refine ⟨a, Ev.step (fun k => by rw [laws_szClaimS.l0]) ?_, Int.le_refl _, fun _ j h1 h2 => by omega⟩
    exact ev_neg (by omega) (ev_ret rfl)
  | succ d ih =>
    intro i a hi h0 h1
    obtain ⟨r, e, hr, hl⟩ := sz_claim (s.getD i zLC).f0 (s.getD i zLC).f1 a (hw _ (getD_mem s zLC i (by omega))) h0 h1
    have E := fun (r' : Int) (h : Ev (fun k => if r < 0 then some (-1) else laws_szClaimS.l0 k s r ((i + 1 : Nat) : Int)) r') => Ev.step (g := fun k => laws_szClaimS.l0 k s a (i : Int)) (r := r') (fun k => by rw [laws_szClaimS.l0]) (by
      rw [rdLC, w64s (i := i) (by omega)]
      refine ev_pos (by omega) ?_
      refine ev_pos (by omega) ?_
      exact ev_bindc e h)
    by_cases h : r < 0
    · exact ⟨-1, E _ (ev_pos h (ev_ret rfl)), by omega, fun h => absurd h (by decide)⟩
    · obtain ⟨r', e', hle, h'⟩ := ih (i + 1) r (by omega) (by omega) (by omega)
      refine ⟨r', E _ (ev_neg h e'), by omega, fun h0 j h1 h2 => ?_⟩
      rcases Nat.eq_or_lt_of_le h1 with e | e
      · subst e
        have := hl (by omega)
        omega
      · exact h' h0 j e h2
/-- A story that the laws don't leave out. -/
def Small (s : List LCl) : Prop := s.length ≤ 1048576 ∧ ∀ j, j < s.length → (s.getD j zLC).f1.length ≤ 1048576
theorem sz_claims2 (s : List LCl) (hs : s.length ≤ maxLen) (hw : ∀ c ∈ s, c.f1.length ≤ maxLen) : ∃ r, Ev (fun k => laws_szClaimS.f k s 1048576) r ∧ r ≤ 1048576 ∧ (0 ≤ r → Small s) := by
  unfold maxLen at hs
  unfold laws_szClaimS.f
  rw [w64 (by omega) (by omega)]
  by_cases h : 1048576 - (s.length : Int) < 0
  · exact ⟨-1, ev_pos h (ev_ret rfl), by omega, fun h => absurd h (by decide)⟩
  · obtain ⟨r, e, hle, h'⟩ := sz_claims_l s (by omega) hw s.length 0 (1048576 - (s.length : Int)) (by omega) (by omega) (by omega)
    exact ⟨r, ev_neg h e, by omega, fun h0 => ⟨by omega, fun j hj => h' h0 j (by omega) hj⟩⟩
theorem sz_claims (s : List LCl) (hs : s.length ≤ maxLen) (hw : ∀ c ∈ s, c.f1.length ≤ maxLen) : ∃ r, Ev (fun k => laws_szClaimS.f k s 1048576) r ∧ (0 ≤ r → Small s) := by
  obtain ⟨r, e, _, h⟩ := sz_claims2 s hs hw
  exact ⟨r, e, h⟩

/-! ### they turn -/
theorem to_marks_l (l : List LMk) (hn : l.length ≤ 1048576) : ∀ d i (x : List Mk), i + d = l.length → x.length = l.length → (∀ j, j < i → x.getD j zM = toM (l.getD j zLM)) → Ev (fun k => laws_toMarkS.l0 k l x (i : Int)) (toMs l) := by
  intro d
  induction d with
  | zero =>
    intro i x hi hx h
    refine Ev.step (fun k => by rw [laws_toMarkS.l0]) ?_
    refine ev_neg (by omega) (ev_ret (ext_getD zM x (toMs l) (by rw [toMs_len]; exact hx) fun j hj => ?_))
    rw [toMs_len] at hj
    rw [h j (by omega)]
    unfold toMs
    rw [getD_lt _ _ _ hj, getD_lt _ _ _ (by simpa using hj), List.getElem_map]
  | succ d ih =>
    intro i x hi hx h
    refine Ev.step (fun k => by rw [laws_toMarkS.l0]) ?_
    rw [w64s (by omega), rdLM, Int.toNat_natCast]
    refine ev_pos (by omega) ?_
    refine ev_pos (by omega) ?_
    refine ev_bindc (a := ((l.getD i zLM).f0, (l.getD i zLM).f1)) rfl ?_
    refine ev_pos (by omega) ?_
    refine ih (i + 1) _ (by omega) (by simpa using hx) fun j hj => ?_
    rw [set_getD zM x i _ (by omega)]
    split
    · rename_i e
      rw [e]
      rfl
    · exact h j (by omega)
theorem to_marks (l : List LMk) (hn : l.length ≤ 1048576) : Ev (fun k => laws_toMarkS.f k l) (toMs l) := by
  unfold laws_toMarkS.f
  rw [Int.toNat_natCast]
  refine ev_pos (by omega) ?_
  refine ev_pos (by omega) ?_
  exact to_marks_l l hn l.length 0 _ (by omega) (by simp) fun j hj => by omega
theorem to_claims_l (l : List LCl) (hn : Small l) : ∀ d i (x : List Cl), i + d = l.length → x.length = l.length → (∀ j, j < i → x.getD j zC = toC (l.getD j zLC)) → Ev (fun k => laws_toClaimS.l0 k l x (i : Int)) (toCs l) := by
  intro d
  have hl := hn.1
  induction d with
  | zero =>
    intro i x hi hx h
    refine Ev.step (fun k => by rw [laws_toClaimS.l0]) ?_
    refine ev_neg (by omega) (ev_ret (ext_getD zC x (toCs l) (by rw [toCs_len]; exact hx) fun j hj => ?_))
    rw [toCs_len] at hj
    rw [h j (by omega), toCs_getD l j hj]
  | succ d ih =>
    intro i x hi hx h
    refine Ev.step (fun k => by rw [laws_toClaimS.l0]) ?_
    rw [w64s (by omega), rdLC, Int.toNat_natCast]
    refine ev_pos (by omega) ?_
    refine ev_pos (by omega) ?_
    refine ev_bind (a := ((l.getD i zLC).f0, toMs (l.getD i zLC).f1)) ?_ ?_
    · unfold laws_toClaim.f
      exact ev_bind (to_marks _ (hn.2 i (by omega))) (ev_ret rfl)
    refine ev_pos (by omega) ?_
    refine ih (i + 1) _ (by omega) (by simpa using hx) fun j hj => ?_
    rw [set_getD zC x i _ (by omega)]
    split
    · rename_i e
      rw [e]
      rfl
    · exact h j (by omega)
theorem to_claims (l : List LCl) (hn : Small l) : Ev (fun k => laws_toClaimS.f k l) (toCs l) := by
  have hl := hn.1
  unfold laws_toClaimS.f
  rw [Int.toNat_natCast]
  refine ev_pos (by omega) ?_
  refine ev_pos (by omega) ?_
  exact to_claims_l l hn l.length 0 _ (by omega) (by simp) fun j hj => by omega

/-! ### they compare -/
theorem eq_marks_l (l : List Mk) (hn : l.length < 4611686018427387904) : ∀ d i, i + d = l.length → Ev (fun k => laws_eqMarkS.l0 k l l (i : Int)) true := by
  intro d
  induction d with
  | zero =>
    intro i hi
    refine Ev.step (fun k => by rw [laws_eqMarkS.l0]) ?_
    exact ev_neg (by omega) (ev_ret rfl)
  | succ d ih =>
    intro i hi
    refine Ev.step (fun k => by rw [laws_eqMarkS.l0]) ?_
    rw [w64s (by omega)]
    refine ev_pos (by omega) ?_
    refine ev_pos (by omega) ?_
    refine ev_pos (by omega) ?_
    refine ev_bindc (a := true) (by unfold laws_eqMark.f; simp) ?_
    exact ev_pos rfl (ih (i + 1) (by omega))
theorem eq_marks (l : List Mk) (hn : l.length < 4611686018427387904) : Ev (fun k => laws_eqMarkS.f k l l) true := by
  unfold laws_eqMarkS.f
  exact ev_pos rfl (eq_marks_l l hn l.length 0 (by omega))
theorem eq_claims_l (l : List Cl) (hn : l.length < 4611686018427387904) (hm : ∀ j, (l.getD j zC).f1.length < 4611686018427387904) : ∀ d i, i + d = l.length → Ev (fun k => laws_eqClaimS.l0 k l l (i : Int)) true := by
  intro d
  induction d with
  | zero =>
    intro i hi
    refine Ev.step (fun k => by rw [laws_eqClaimS.l0]) ?_
    exact ev_neg (by omega) (ev_ret rfl)
  | succ d ih =>
    intro i hi
    refine Ev.step (fun k => by rw [laws_eqClaimS.l0]) ?_
    rw [w64s (by omega), rdC]
    refine ev_pos (by omega) ?_
    refine ev_pos (by omega) ?_
    refine ev_pos (by omega) ?_
    refine ev_bind (a := true) ?_ ?_
    · unfold laws_eqClaim.f
      refine ev_pos rfl ?_
      exact ev_bind (eq_marks _ (hm i)) (ev_pos rfl (ev_ret rfl))
    · exact ev_pos rfl (ih (i + 1) (by omega))
theorem eq_claims (l : List Cl) (hn : l.length < 4611686018427387904) (hm : ∀ j, (l.getD j zC).f1.length < 4611686018427387904) : Ev (fun k => laws_eqClaimS.f k l l) true := by
  unfold laws_eqClaimS.f
  exact ev_pos rfl (eq_claims_l l hn hm l.length 0 (by omega))
/-- What came in fits the machine. -/
def CWf (s : List LCl) : Prop := s.length ≤ maxLen ∧ ∀ y0 ∈ s, ((Lit.int .i64 y0.f0).wf = true) ∧ (y0.f1.length ≤ maxLen ∧ ∀ y1 ∈ y0.f1, ((Lit.int .i64 y1.f0).wf = true) ∧ ((Lit.int .i64 y1.f1).wf = true))
theorem wf_le {x : Int} (h : (Lit.int .i64 x).wf = true) : -9223372036854775808 ≤ x ∧ x ≤ 9223372036854775807 := by
  simp [Lit.wf, IntKind.min, IntKind.max, IntKind.bits, IntKind.signed] at h
  omega
theorem toMs64 (l : List LMk) (h : ∀ y1 ∈ l, ((Lit.int .i64 y1.f0).wf = true) ∧ ((Lit.int .i64 y1.f1).wf = true)) : M64 (toMs l) := by
  refine getD_all (toMs l) zM (fun m => m.f1 ≤ 9223372036854775807) (by decide) fun m hm => ?_
  obtain ⟨y, hy, rfl⟩ := List.mem_map.1 hm
  exact (wf_le (h y hy).2).2
theorem toCs64 (s : List LCl) (h : CWf s) (hs : Small s) : S64 (toCs s) := by
  have hl := hs.1
  refine ⟨by rw [toCs_len]; omega, getD_all (toCs s) zC (fun c => M64 c.f1 ∧ c.f1.length < 4611686018427387904) ⟨?_, by decide⟩ fun c hc => ?_⟩
  · intro i
    show (([] : List Mk).getD i zM).f1 ≤ 9223372036854775807
    rw [List.getD_nil]
    decide
  · obtain ⟨y, hy, rfl⟩ := List.mem_map.1 hc
    have h2 := (h.2 y hy).2
    refine ⟨toMs64 _ h2.2, ?_⟩
    show (toMs y.f1).length < _
    rw [toMs_len]
    obtain ⟨j, hj, e⟩ := List.getElem_of_mem hy
    have := hs.2 j hj
    rw [getD_lt _ _ _ hj, e] at this
    omega
end Go.Proofs.Ytcaogllnbpmcgaa.M
